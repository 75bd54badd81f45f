import Derived.Test.YtapgnmigpfcdfaaAdef
import Derived.Test.YtapgnmigpfcdfaaProg
import Derived.KernelRfl
namespace Go.Proofs.Ytapgnmigpfcdfaa.C
open Go Go.RowKit Go.Proofs.Ytapgnmigpfcdfaa.AL

/-- conclave/net.New: function 8; parameters: int; results: *net.Net, api.Errno -/
def net_New.c : ACode :=
 .seq (.region [⟨none, some 2, .asg (.c (.lit (.pointer none)))⟩,
    ⟨none, some 3, .asg (.c (.int .i64 0))⟩])
 (.seq (.seq (.region [⟨none, some 4, .mov (.t 0)⟩,
     ⟨none, some 5, .bin .lss (.t 4) (.c (.int .i64 1))⟩,
     ⟨none, some 6, .mov (.t 5)⟩,
     ⟨some (6, false), some 7, .mov (.t 0)⟩,
     ⟨some (6, false), some 8, .bin .gtr (.t 7) (.c (.int .i64 65))⟩,
     ⟨none, some 9, .pick (.t 6) (.c (.bool true)) (.t 8)⟩])
  (.cond (.t 9) (.seq (.region [⟨none, some 2, .asg (.c (.lit (.pointer none)))⟩,
      ⟨none, some 3, .asg (.c (.int .i64 2))⟩])
   (.ret))
   (.skip)))
 (.seq (.region [⟨none, some 10, .mov (.t 0)⟩,
    ⟨none, some 11, .build [.int .i64 0, .lit (.slice none 0 0), .int .i64 0, .int .i64 0, .int .i64 0] [(0, 1, (.t 10))]⟩,
    ⟨none, some 12, .box (.t 11)⟩,
    ⟨none, some 2, .asg (.t 12)⟩,
    ⟨none, some 3, .asg (.c (.int .i64 0))⟩])
 (.ret)))
theorem net_New.k : chkFn Go.Proofs.Try.prog 8 13 [.tmp 2, .tmp 3] net_New.c = true := by kernel_rfl

/-- (*conclave/net.Net).Send: function 9; parameters: *net.Net, int, int, []uint8; results: api.Errno -/
def net_Net_Send.c : ACode :=
 .seq (.region [⟨none, some 8, .asg (.c (.int .i64 0))⟩])
 (.seq (.block 0 (.seq (.region [⟨none, some 10, .mov (.t 0)⟩,
      ⟨none, some 11, .call 26 [(.t 10)]⟩,
      ⟨none, some 9, .asg (.t 11)⟩])
   (.cond (.t 9) (.seq (.region [⟨none, some 8, .asg (.c (.int .i64 1))⟩])
    (.ret))
    (.seq (.region [⟨none, some 13, .mov (.t 1)⟩,
       ⟨none, some 14, .bin .lss (.t 13) (.c (.int .i64 0))⟩,
       ⟨none, some 15, .mov (.t 14)⟩,
       ⟨some (15, false), some 16, .mov (.t 1)⟩,
       ⟨some (15, false), some 17, .mov (.t 0)⟩,
       ⟨some (15, false), some 18, .nilchk (.t 17)⟩,
       ⟨some (15, false), some 19, .fld (.t 18) 0⟩,
       ⟨some (15, false), some 20, .ld (.t 19) none⟩,
       ⟨some (15, false), some 21, .bin .geq (.t 16) (.t 20)⟩,
       ⟨none, some 22, .pick (.t 15) (.c (.bool true)) (.t 21)⟩,
       ⟨none, some 23, .mov (.t 22)⟩,
       ⟨some (23, false), some 24, .mov (.t 2)⟩,
       ⟨some (23, false), some 25, .bin .lss (.t 24) (.c (.int .i64 0))⟩,
       ⟨none, some 26, .pick (.t 23) (.c (.bool true)) (.t 25)⟩,
       ⟨none, some 27, .mov (.t 26)⟩,
       ⟨some (27, false), some 28, .mov (.t 2)⟩,
       ⟨some (27, false), some 29, .mov (.t 0)⟩,
       ⟨some (27, false), some 30, .nilchk (.t 29)⟩,
       ⟨some (27, false), some 31, .fld (.t 30) 0⟩,
       ⟨some (27, false), some 32, .ld (.t 31) none⟩,
       ⟨some (27, false), some 33, .bin .geq (.t 28) (.t 32)⟩,
       ⟨none, some 34, .pick (.t 27) (.c (.bool true)) (.t 33)⟩,
       ⟨none, some 12, .asg (.t 34)⟩])
    (.cond (.t 12) (.seq (.region [⟨none, some 8, .asg (.c (.int .i64 2))⟩])
     (.ret))
     (.skip))))))
 (.seq (.region [⟨none, some 35, .mov (.t 0)⟩,
    ⟨none, some 36, .mov (.t 1)⟩,
    ⟨none, some 37, .mov (.t 2)⟩,
    ⟨none, some 38, .mov (.t 3)⟩,
    ⟨none, some 39, .build [.int .i64 0, .int .i64 0, .lit (.slice none 0 0)] [(0, 1, (.t 36)), (1, 1, (.t 37)), (2, 1, (.t 38))]⟩,
    ⟨none, some 40, .call 27 [(.t 35), (.t 39)]⟩,
    ⟨none, some 8, .asg (.t 40)⟩])
 (.ret)))
abbrev net_Net_Send.K0 : List Nat := [8, 9, 10, 11, 12, 13, 14, 15, 16, 17, 18, 19, 20, 21, 22, 23, 24, 25, 26, 27, 28, 29, 30, 31, 32, 33, 34]
theorem net_Net_Send.k : chkFn Go.Proofs.Try.prog 9 41 [.tmp 8] net_Net_Send.c = true := by kernel_rfl

/-- (*conclave/net.Net).none: function 26; parameters: *net.Net; results: bool -/
def net_Net_none.c : ACode :=
 .seq (.region [⟨none, some 2, .asg (.c (.bool false))⟩])
 (.seq (.region [⟨none, some 3, .mov (.t 0)⟩,
    ⟨none, some 4, .eq .ptr false (.t 3) (.c (.lit (.pointer none)))⟩,
    ⟨none, some 5, .mov (.t 4)⟩,
    ⟨some (5, false), some 6, .mov (.t 0)⟩,
    ⟨some (5, false), some 7, .nilchk (.t 6)⟩,
    ⟨some (5, false), some 8, .fld (.t 7) 0⟩,
    ⟨some (5, false), some 9, .ld (.t 8) none⟩,
    ⟨some (5, false), some 10, .bin .eql (.t 9) (.c (.int .i64 0))⟩,
    ⟨none, some 11, .pick (.t 5) (.c (.bool true)) (.t 10)⟩,
    ⟨none, some 2, .asg (.t 11)⟩])
 (.ret))
theorem net_Net_none.k : chkFn Go.Proofs.Try.prog 26 12 [.tmp 2] net_Net_none.c = true := by kernel_rfl

/-- (*conclave/net.Net).put: function 27; parameters: *net.Net, api.Packet; results: api.Errno -/
def net_Net_put.c : ACode :=
 .seq (.region [⟨none, some 3, .box (.t 1)⟩,
    ⟨none, some 4, .asg (.c (.int .i64 0))⟩])
 (.seq (.seq (.region [⟨none, some 5, .mov (.t 0)⟩,
     ⟨none, some 6, .nilchk (.t 5)⟩,
     ⟨none, some 7, .fld (.t 6) 1⟩,
     ⟨none, some 8, .ld (.t 7) none⟩,
     ⟨none, some 9, .len false (.t 8)⟩,
     ⟨none, some 10, .bin .geq (.t 9) (.c (.int .i64 4096))⟩,
     ⟨none, some 11, .mov (.t 10)⟩,
     ⟨some (11, false), some 12, .fld (.t 3) 2⟩,
     ⟨some (11, false), some 13, .ld (.t 12) none⟩,
     ⟨some (11, false), some 14, .len false (.t 13)⟩,
     ⟨some (11, false), some 15, .bin .gtr (.t 14) (.c (.int .i64 1048576))⟩,
     ⟨none, some 16, .pick (.t 11) (.c (.bool true)) (.t 15)⟩])
  (.cond (.t 16) (.seq (.region [⟨none, some 4, .asg (.c (.int .i64 4))⟩])
   (.ret))
   (.skip)))
 (.seq (.draw [0, 1, 2, 3, 4, 5, 6, 7, 8, 9, 10, 11] [(6, 5), (7, 5), (8, 4), (8, 5), (11, 4), (11, 5)] [⟨none, some 17, .mov (.t 0)⟩,
    ⟨none, some 18, .mov (.t 0)⟩,
    ⟨none, some 19, .nilchk (.t 18)⟩,
    ⟨none, some 20, .fld (.t 19) 1⟩,
    ⟨none, some 21, .ld (.t 20) none⟩,
    ⟨none, some 22, .ld (.t 3) (some 3)⟩,
    ⟨none, some 23, .call 28 [(.t 22)]⟩,
    ⟨none, some 24, .bslice 1 [.int .i64 0, .int .i64 0, .lit (.slice none 0 0)] [(0, 3, (.t 23))]⟩,
    ⟨none, some 25, .app (.t 21) (.t 24) 3 40⟩,
    ⟨none, some 26, .nilchk (.t 17)⟩,
    ⟨none, some 27, .fld (.t 26) 1⟩,
    ⟨none, none, .st (.t 27) (.t 25) 1⟩])
 (.seq (.region [⟨none, some 28, .mov (.t 0)⟩,
    ⟨none, some 29, .nilchk (.t 28)⟩,
    ⟨none, some 30, .fld (.t 29) 2⟩,
    ⟨none, some 31, .call 39 [(.t 30), (.c (.int .i64 1))]⟩])
 (.seq (.region [⟨none, some 4, .asg (.c (.int .i64 0))⟩])
 (.ret)))))
theorem net_Net_put.k : chkFn Go.Proofs.Try.prog 27 32 [.tmp 4] net_Net_put.c = true := by kernel_rfl

/-- conclave/net.fresh: function 28; parameters: api.Packet; results: api.Packet -/
def net_fresh.c : ACode :=
 .seq (.region [⟨none, some 1, .box (.t 0)⟩,
    ⟨none, some 2, .alloc [.int .i64 0, .int .i64 0, .lit (.slice none 0 0)]⟩])
 (.seq (.region [⟨none, some 3, .fld (.t 1) 2⟩,
    ⟨none, some 4, .ld (.t 3) none⟩,
    ⟨none, some 5, .call 40 [(.t 4)]⟩,
    ⟨none, some 6, .fld (.t 1) 2⟩,
    ⟨none, none, .st (.t 6) (.t 5) 1⟩])
 (.seq (.region [⟨none, some 7, .ld (.t 1) (some 3)⟩,
    ⟨none, none, .st (.t 2) (.t 7) 3⟩])
 (.ret)))
theorem net_fresh.k : chkFn Go.Proofs.Try.prog 28 8 [.cell 2 (some 3)] net_fresh.c = true := by kernel_rfl

/-- bytes.Clone: function 40; parameters: []uint8; results: []uint8 -/
def bytes_Clone.c : ACode :=
 .seq (.region [⟨none, some 2, .asg (.c (.lit (.slice none 0 0)))⟩])
 (.seq (.seq (.region [⟨none, some 3, .mov (.t 0)⟩,
     ⟨none, some 4, .eq .slice false (.t 3) (.c (.lit (.slice none 0 0)))⟩])
  (.cond (.t 4) (.seq (.region [⟨none, some 2, .asg (.c (.lit (.slice none 0 0)))⟩])
   (.ret))
   (.skip)))
 (.seq (.region [⟨none, some 5, .bslice 0 [.int .u8 0] []⟩,
    ⟨none, some 6, .mov (.t 0)⟩,
    ⟨none, some 7, .app (.t 5) (.t 6) 1 1⟩,
    ⟨none, some 2, .asg (.t 7)⟩])
 (.ret)))
theorem bytes_Clone.k : chkFn Go.Proofs.Try.prog 40 8 [.tmp 2] bytes_Clone.c = true := by kernel_rfl

/-- (*sync/atomic.Int64).Add: function 39; parameters: *atomic.Int64, int64; results: int64 -/
def sync_atomic_Int64_Add.c : ACode :=
 .seq (.region [⟨none, some 4, .asg (.c (.int .i64 0))⟩])
 (.seq (.region [⟨none, some 5, .mov (.t 0)⟩,
    ⟨none, some 6, .nilchk (.t 5)⟩,
    ⟨none, some 7, .fld (.t 6) 0⟩,
    ⟨none, some 8, .mov (.t 1)⟩,
    ⟨none, some 9, .calx 43 [(.t 7), (.t 8)]⟩,
    ⟨none, some 4, .asg (.t 9)⟩])
 (.ret))
theorem sync_atomic_Int64_Add.k : chkFn Go.Proofs.Try.prog 39 10 [.tmp 4] sync_atomic_Int64_Add.c = true := by kernel_rfl

/-- (*sync/atomic.Int64).Load: function 35; parameters: *atomic.Int64; results: int64 -/
def sync_atomic_Int64_Load.c : ACode :=
 .seq (.region [⟨none, some 2, .asg (.c (.int .i64 0))⟩])
 (.seq (.region [⟨none, some 3, .mov (.t 0)⟩,
    ⟨none, some 4, .nilchk (.t 3)⟩,
    ⟨none, some 5, .fld (.t 4) 0⟩,
    ⟨none, some 6, .calx 41 [(.t 5)]⟩,
    ⟨none, some 2, .asg (.t 6)⟩])
 (.ret))
theorem sync_atomic_Int64_Load.k : chkFn Go.Proofs.Try.prog 35 7 [.tmp 2] sync_atomic_Int64_Load.c = true := by kernel_rfl

/-- (*sync/atomic.Int64).Store: function 36; parameters: *atomic.Int64, int64; results:  -/
def sync_atomic_Int64_Store.c : ACode :=
 .region [⟨none, some 4, .mov (.t 0)⟩,
   ⟨none, some 5, .nilchk (.t 4)⟩,
   ⟨none, some 6, .fld (.t 5) 0⟩,
   ⟨none, some 7, .mov (.t 1)⟩,
   ⟨none, some 8, .calx 42 [(.t 6), (.t 7)]⟩]
theorem sync_atomic_Int64_Store.k : chkFn Go.Proofs.Try.prog 36 9 [] sync_atomic_Int64_Store.c = true := by kernel_rfl

/-- (*conclave/net.Net).Pending: function 10; parameters: *net.Net; results: []api.Packet -/
def net_Net_Pending.c : ACode :=
 .seq (.region [⟨none, some 2, .asg (.c (.lit (.slice none 0 0)))⟩])
 (.seq (.seq (.region [⟨none, some 6, .mov (.t 0)⟩,
     ⟨none, some 7, .call 26 [(.t 6)]⟩])
  (.cond (.t 7) (.seq (.region [⟨none, some 2, .asg (.c (.lit (.slice none 0 0)))⟩])
   (.ret))
   (.skip)))
 (.seq (.region [⟨none, some 3, .asg (.c (.lit (.slice none 0 0)))⟩])
 (.seq (.seq (.region [⟨none, some 8, .mov (.t 0)⟩,
     ⟨none, some 9, .nilchk (.t 8)⟩,
     ⟨none, some 10, .fld (.t 9) 1⟩,
     ⟨none, some 11, .ld (.t 10) none⟩,
     ⟨none, some 12, .len false (.t 11)⟩,
     ⟨none, some 13, .mov (.c (.int .i64 0))⟩])
  (.block 0 (.loop (.seq (.region [⟨none, some 14, .bin .lss (.t 13) (.t 12)⟩])
    (.seq (.cond (.t 14) (.skip)
      (.exit 0))
    (.seq (.block 1 (.seq (.region [⟨none, some 15, .idx (.t 11) (.t 13) 3⟩,
         ⟨none, some 16, .ld (.t 15) (some 3)⟩,
         ⟨none, some 5, .alloc [.int .i64 0, .int .i64 0, .lit (.slice none 0 0)]⟩,
         ⟨none, none, .st (.t 5) (.t 16) 3⟩])
      (.region [⟨none, some 17, .mov (.t 3)⟩,
        ⟨none, some 18, .ld (.t 5) (some 3)⟩,
        ⟨none, some 19, .call 28 [(.t 18)]⟩,
        ⟨none, some 20, .bslice 1 [.int .i64 0, .int .i64 0, .lit (.slice none 0 0)] [(0, 3, (.t 19))]⟩,
        ⟨none, some 21, .app (.t 17) (.t 20) 3 40⟩,
        ⟨none, some 3, .asg (.t 21)⟩])))
    (.region [⟨none, some 22, .bin .add (.t 13) (.c (.int .i64 1))⟩,
      ⟨none, some 13, .mov (.t 22)⟩])))))))
 (.seq (.region [⟨none, some 23, .mov (.t 3)⟩,
    ⟨none, some 2, .asg (.t 23)⟩])
 (.ret)))))
abbrev net_Net_Pending.D0 : List Nat := [3, 5, 13, 14, 15, 16, 17, 18, 19, 20, 21, 22]
abbrev net_Net_Pending.K0 : List Nat := [3, 5, 13, 14, 15, 16, 17, 18, 19, 20, 21, 22]
abbrev net_Net_Pending.K1 : List Nat := [3, 5, 15, 16, 17, 18, 19, 20, 21]
theorem net_Net_Pending.k : chkFn Go.Proofs.Try.prog 10 24 [.tmp 2] net_Net_Pending.c = true := by kernel_rfl

/-- (*conclave/net.Net).Deliver: function 18; parameters: *net.Net, int; results: api.Packet, api.Errno -/
def net_Net_Deliver.c : ACode :=
 .seq (.region [⟨none, some 4, .alloc [.int .i64 0, .int .i64 0, .lit (.slice none 0 0)]⟩,
    ⟨none, some 5, .asg (.c (.int .i64 0))⟩])
 (.seq (.seq (.region [⟨none, some 7, .mov (.t 0)⟩,
     ⟨none, some 8, .mov (.t 1)⟩,
     ⟨none, some 9, .call 29 [(.t 7), (.t 8)]⟩,
     ⟨none, some 6, .asg (.t 9)⟩])
  (.seq (.region [⟨none, some 10, .mov (.t 6)⟩,
     ⟨none, some 11, .bin .neq (.t 10) (.c (.int .i64 0))⟩])
  (.cond (.t 11) (.seq (.region [⟨none, some 12, .build [.int .i64 0, .int .i64 0, .lit (.slice none 0 0)] []⟩,
      ⟨none, some 13, .mov (.t 6)⟩,
      ⟨none, none, .st (.t 4) (.t 12) 3⟩,
      ⟨none, some 5, .asg (.t 13)⟩])
   (.ret))
   (.skip))))
 (.seq (.region [⟨none, some 14, .mov (.t 0)⟩,
    ⟨none, some 15, .nilchk (.t 14)⟩,
    ⟨none, some 16, .fld (.t 15) 3⟩,
    ⟨none, some 17, .ld (.t 16) none⟩,
    ⟨none, some 18, .bin .add (.t 17) (.c (.int .i64 1))⟩,
    ⟨none, some 19, .nilchk (.t 14)⟩,
    ⟨none, some 20, .fld (.t 19) 3⟩,
    ⟨none, none, .st (.t 20) (.t 18) 1⟩])
 (.seq (.region [⟨none, some 21, .mov (.t 0)⟩,
    ⟨none, some 22, .mov (.t 1)⟩,
    ⟨none, some 23, .call 34 [(.t 21), (.t 22)]⟩,
    ⟨none, none, .st (.t 4) (.t 23) 3⟩,
    ⟨none, some 5, .asg (.c (.int .i64 0))⟩])
 (.ret))))
theorem net_Net_Deliver.k : chkFn Go.Proofs.Try.prog 18 24 [.cell 4 (some 3), .tmp 5] net_Net_Deliver.c = true := by kernel_rfl

/-- (*conclave/net.Net).place: function 29; parameters: *net.Net, int; results: api.Errno -/
def net_Net_place.c : ACode :=
 .seq (.region [⟨none, some 4, .asg (.c (.int .i64 0))⟩])
 (.seq (.block 0 (.seq (.region [⟨none, some 6, .mov (.t 0)⟩,
      ⟨none, some 7, .call 26 [(.t 6)]⟩,
      ⟨none, some 5, .asg (.t 7)⟩])
   (.cond (.t 5) (.seq (.region [⟨none, some 4, .asg (.c (.int .i64 1))⟩])
    (.ret))
    (.seq (.region [⟨none, some 9, .mov (.t 1)⟩,
       ⟨none, some 10, .bin .lss (.t 9) (.c (.int .i64 0))⟩,
       ⟨none, some 11, .mov (.t 10)⟩,
       ⟨some (11, false), some 12, .mov (.t 1)⟩,
       ⟨some (11, false), some 13, .mov (.t 0)⟩,
       ⟨some (11, false), some 14, .nilchk (.t 13)⟩,
       ⟨some (11, false), some 15, .fld (.t 14) 1⟩,
       ⟨some (11, false), some 16, .ld (.t 15) none⟩,
       ⟨some (11, false), some 17, .len false (.t 16)⟩,
       ⟨some (11, false), some 18, .bin .geq (.t 12) (.t 17)⟩,
       ⟨none, some 19, .pick (.t 11) (.c (.bool true)) (.t 18)⟩,
       ⟨none, some 8, .asg (.t 19)⟩])
    (.cond (.t 8) (.seq (.region [⟨none, some 4, .asg (.c (.int .i64 2))⟩])
     (.ret))
     (.skip))))))
 (.seq (.region [⟨none, some 4, .asg (.c (.int .i64 0))⟩])
 (.ret)))
abbrev net_Net_place.K0 : List Nat := [4, 5, 6, 7, 8, 9, 10, 11, 12, 13, 14, 15, 16, 17, 18, 19]
theorem net_Net_place.k : chkFn Go.Proofs.Try.prog 29 20 [.tmp 4] net_Net_place.c = true := by kernel_rfl

/-- (*conclave/net.Net).take: function 34; parameters: *net.Net, int; results: api.Packet -/
def net_Net_take.c : ACode :=
 .seq (.region [⟨none, some 4, .alloc [.int .i64 0, .int .i64 0, .lit (.slice none 0 0)]⟩])
 (.seq (.region [⟨none, some 7, .mov (.t 0)⟩,
    ⟨none, some 8, .nilchk (.t 7)⟩,
    ⟨none, some 9, .fld (.t 8) 1⟩,
    ⟨none, some 10, .ld (.t 9) none⟩,
    ⟨none, some 11, .mov (.t 1)⟩,
    ⟨none, some 12, .idx (.t 10) (.t 11) 3⟩,
    ⟨none, some 13, .ld (.t 12) (some 3)⟩,
    ⟨none, some 5, .alloc [.int .i64 0, .int .i64 0, .lit (.slice none 0 0)]⟩,
    ⟨none, none, .st (.t 5) (.t 13) 3⟩])
 (.seq (.draw [0, 1, 2, 3, 4, 5, 6, 7, 8, 9, 10, 11, 12, 13] [(13, 3), (13, 5), (13, 9), (13, 12)] [⟨none, some 14, .mov (.t 0)⟩,
    ⟨none, some 15, .nilchk (.t 14)⟩,
    ⟨none, some 16, .fld (.t 15) 1⟩,
    ⟨none, some 17, .ld (.t 16) none⟩,
    ⟨none, some 18, .mov (.t 1)⟩,
    ⟨none, some 19, .slc (.t 17) (some (.t 18)) none none 3⟩,
    ⟨none, some 20, .mov (.t 0)⟩,
    ⟨none, some 21, .nilchk (.t 20)⟩,
    ⟨none, some 22, .fld (.t 21) 1⟩,
    ⟨none, some 23, .ld (.t 22) none⟩,
    ⟨none, some 24, .mov (.t 1)⟩,
    ⟨none, some 25, .bin .add (.t 24) (.c (.int .i64 1))⟩,
    ⟨none, some 26, .slc (.t 23) (some (.t 25)) none none 3⟩,
    ⟨none, some 27, .cpy (.t 19) (.t 26) 3⟩])
 (.seq (.region [⟨none, some 28, .mov (.t 0)⟩,
    ⟨none, some 29, .nilchk (.t 28)⟩,
    ⟨none, some 30, .fld (.t 29) 1⟩,
    ⟨none, some 31, .ld (.t 30) none⟩,
    ⟨none, some 32, .len false (.t 31)⟩,
    ⟨none, some 33, .bin .sub (.t 32) (.c (.int .i64 1))⟩,
    ⟨none, some 6, .asg (.t 33)⟩])
 (.seq (.region [⟨none, some 34, .mov (.t 0)⟩,
    ⟨none, some 35, .nilchk (.t 34)⟩,
    ⟨none, some 36, .fld (.t 35) 1⟩,
    ⟨none, some 37, .ld (.t 36) none⟩,
    ⟨none, some 38, .mov (.t 6)⟩,
    ⟨none, some 39, .build [.int .i64 0, .int .i64 0, .lit (.slice none 0 0)] []⟩,
    ⟨none, some 40, .idx (.t 37) (.t 38) 3⟩,
    ⟨none, none, .st (.t 40) (.t 39) 3⟩])
 (.seq (.region [⟨none, some 41, .mov (.t 0)⟩,
    ⟨none, some 42, .mov (.t 0)⟩,
    ⟨none, some 43, .nilchk (.t 42)⟩,
    ⟨none, some 44, .fld (.t 43) 1⟩,
    ⟨none, some 45, .ld (.t 44) none⟩,
    ⟨none, some 46, .mov (.t 6)⟩,
    ⟨none, some 47, .mov (.t 6)⟩,
    ⟨none, some 48, .slc (.t 45) none (some (.t 46)) (some (.t 47)) 3⟩,
    ⟨none, some 49, .nilchk (.t 41)⟩,
    ⟨none, some 50, .fld (.t 49) 1⟩,
    ⟨none, none, .st (.t 50) (.t 48) 1⟩])
 (.seq (.region [⟨none, some 51, .ld (.t 5) (some 3)⟩,
    ⟨none, none, .st (.t 4) (.t 51) 3⟩])
 (.ret)))))))
theorem net_Net_take.k : chkFn Go.Proofs.Try.prog 34 52 [.cell 4 (some 3)] net_Net_take.c = true := by kernel_rfl

/-- (*conclave/net.Net).Move: function 12; parameters: *net.Net, int, int; results: api.Errno -/
def net_Net_Move.c : ACode :=
 .seq (.region [⟨none, some 6, .asg (.c (.int .i64 0))⟩])
 (.seq (.seq (.region [⟨none, some 10, .mov (.t 0)⟩,
     ⟨none, some 11, .mov (.t 1)⟩,
     ⟨none, some 12, .call 29 [(.t 10), (.t 11)]⟩,
     ⟨none, some 7, .asg (.t 12)⟩])
  (.seq (.region [⟨none, some 13, .mov (.t 7)⟩,
     ⟨none, some 14, .bin .neq (.t 13) (.c (.int .i64 0))⟩])
  (.cond (.t 14) (.seq (.region [⟨none, some 15, .mov (.t 7)⟩,
      ⟨none, some 6, .asg (.t 15)⟩])
   (.ret))
   (.skip))))
 (.seq (.seq (.region [⟨none, some 16, .mov (.t 0)⟩,
     ⟨none, some 17, .mov (.t 2)⟩,
     ⟨none, some 18, .call 29 [(.t 16), (.t 17)]⟩,
     ⟨none, some 8, .asg (.t 18)⟩])
  (.seq (.region [⟨none, some 19, .mov (.t 8)⟩,
     ⟨none, some 20, .bin .neq (.t 19) (.c (.int .i64 0))⟩])
  (.cond (.t 20) (.seq (.region [⟨none, some 21, .mov (.t 8)⟩,
      ⟨none, some 6, .asg (.t 21)⟩])
   (.ret))
   (.skip))))
 (.seq (.region [⟨none, some 22, .mov (.t 0)⟩,
    ⟨none, some 23, .nilchk (.t 22)⟩,
    ⟨none, some 24, .fld (.t 23) 1⟩,
    ⟨none, some 25, .ld (.t 24) none⟩,
    ⟨none, some 26, .mov (.t 1)⟩,
    ⟨none, some 27, .idx (.t 25) (.t 26) 3⟩,
    ⟨none, some 28, .ld (.t 27) (some 3)⟩,
    ⟨none, some 9, .alloc [.int .i64 0, .int .i64 0, .lit (.slice none 0 0)]⟩,
    ⟨none, none, .st (.t 9) (.t 28) 3⟩])
 (.seq (.seq (.region [⟨none, some 29, .mov (.t 1)⟩,
     ⟨none, some 30, .mov (.t 2)⟩,
     ⟨none, some 31, .bin .lss (.t 29) (.t 30)⟩])
  (.cond (.t 31) (.draw [0, 1, 2, 3, 4, 5, 6, 7, 8, 9, 10, 11, 12, 13, 14, 15, 16, 17] [(17, 3), (17, 7), (17, 11), (17, 16)] [⟨none, some 32, .mov (.t 0)⟩,
     ⟨none, some 33, .nilchk (.t 32)⟩,
     ⟨none, some 34, .fld (.t 33) 1⟩,
     ⟨none, some 35, .ld (.t 34) none⟩,
     ⟨none, some 36, .mov (.t 1)⟩,
     ⟨none, some 37, .mov (.t 2)⟩,
     ⟨none, some 38, .mov (.t 2)⟩,
     ⟨none, some 39, .slc (.t 35) (some (.t 36)) (some (.t 37)) (some (.t 38)) 3⟩,
     ⟨none, some 40, .mov (.t 0)⟩,
     ⟨none, some 41, .nilchk (.t 40)⟩,
     ⟨none, some 42, .fld (.t 41) 1⟩,
     ⟨none, some 43, .ld (.t 42) none⟩,
     ⟨none, some 44, .mov (.t 1)⟩,
     ⟨none, some 45, .bin .add (.t 44) (.c (.int .i64 1))⟩,
     ⟨none, some 46, .mov (.t 2)⟩,
     ⟨none, some 47, .bin .add (.t 46) (.c (.int .i64 1))⟩,
     ⟨none, some 48, .slc (.t 43) (some (.t 45)) (some (.t 47)) none 3⟩,
     ⟨none, some 49, .cpy (.t 39) (.t 48) 3⟩])
   (.draw [0, 1, 2, 3, 4, 5, 6, 7, 8, 9, 10, 11, 12, 13, 14, 15, 16] [(16, 3), (16, 8), (16, 12), (16, 15)] [⟨none, some 50, .mov (.t 0)⟩,
     ⟨none, some 51, .nilchk (.t 50)⟩,
     ⟨none, some 52, .fld (.t 51) 1⟩,
     ⟨none, some 53, .ld (.t 52) none⟩,
     ⟨none, some 54, .mov (.t 2)⟩,
     ⟨none, some 55, .bin .add (.t 54) (.c (.int .i64 1))⟩,
     ⟨none, some 56, .mov (.t 1)⟩,
     ⟨none, some 57, .bin .add (.t 56) (.c (.int .i64 1))⟩,
     ⟨none, some 58, .slc (.t 53) (some (.t 55)) (some (.t 57)) none 3⟩,
     ⟨none, some 59, .mov (.t 0)⟩,
     ⟨none, some 60, .nilchk (.t 59)⟩,
     ⟨none, some 61, .fld (.t 60) 1⟩,
     ⟨none, some 62, .ld (.t 61) none⟩,
     ⟨none, some 63, .mov (.t 2)⟩,
     ⟨none, some 64, .mov (.t 1)⟩,
     ⟨none, some 65, .slc (.t 62) (some (.t 63)) (some (.t 64)) none 3⟩,
     ⟨none, some 66, .cpy (.t 58) (.t 65) 3⟩])))
 (.seq (.draw [0, 1, 2, 3, 4, 5, 6, 7] [(7, 3), (7, 5)] [⟨none, some 67, .mov (.t 0)⟩,
    ⟨none, some 68, .nilchk (.t 67)⟩,
    ⟨none, some 69, .fld (.t 68) 1⟩,
    ⟨none, some 70, .ld (.t 69) none⟩,
    ⟨none, some 71, .mov (.t 2)⟩,
    ⟨none, some 72, .ld (.t 9) (some 3)⟩,
    ⟨none, some 73, .idx (.t 70) (.t 71) 3⟩,
    ⟨none, none, .st (.t 73) (.t 72) 3⟩])
 (.seq (.region [⟨none, some 6, .asg (.c (.int .i64 0))⟩])
 (.ret)))))))
theorem net_Net_Move.k : chkFn Go.Proofs.Try.prog 12 74 [.tmp 6] net_Net_Move.c = true := by kernel_rfl

/-- (*conclave/net.Net).Drop: function 19; parameters: *net.Net, int; results: api.Errno -/
def net_Net_Drop.c : ACode :=
 .seq (.region [⟨none, some 4, .asg (.c (.int .i64 0))⟩])
 (.seq (.seq (.region [⟨none, some 6, .mov (.t 0)⟩,
     ⟨none, some 7, .mov (.t 1)⟩,
     ⟨none, some 8, .call 29 [(.t 6), (.t 7)]⟩,
     ⟨none, some 5, .asg (.t 8)⟩])
  (.seq (.region [⟨none, some 9, .mov (.t 5)⟩,
     ⟨none, some 10, .bin .neq (.t 9) (.c (.int .i64 0))⟩])
  (.cond (.t 10) (.seq (.region [⟨none, some 11, .mov (.t 5)⟩,
      ⟨none, some 4, .asg (.t 11)⟩])
   (.ret))
   (.skip))))
 (.seq (.region [⟨none, some 12, .mov (.t 0)⟩,
    ⟨none, some 13, .nilchk (.t 12)⟩,
    ⟨none, some 14, .fld (.t 13) 4⟩,
    ⟨none, some 15, .ld (.t 14) none⟩,
    ⟨none, some 16, .bin .add (.t 15) (.c (.int .i64 1))⟩,
    ⟨none, some 17, .nilchk (.t 12)⟩,
    ⟨none, some 18, .fld (.t 17) 4⟩,
    ⟨none, none, .st (.t 18) (.t 16) 1⟩])
 (.seq (.region [⟨none, some 19, .mov (.t 0)⟩,
    ⟨none, some 20, .mov (.t 1)⟩,
    ⟨none, some 21, .call 34 [(.t 19), (.t 20)]⟩])
 (.seq (.region [⟨none, some 4, .asg (.c (.int .i64 0))⟩])
 (.ret)))))
theorem net_Net_Drop.k : chkFn Go.Proofs.Try.prog 19 22 [.tmp 4] net_Net_Drop.c = true := by kernel_rfl

/-- (*conclave/net.Net).Double: function 20; parameters: *net.Net, int; results: api.Errno -/
def net_Net_Double.c : ACode :=
 .seq (.region [⟨none, some 4, .asg (.c (.int .i64 0))⟩])
 (.seq (.seq (.region [⟨none, some 6, .mov (.t 0)⟩,
     ⟨none, some 7, .mov (.t 1)⟩,
     ⟨none, some 8, .call 29 [(.t 6), (.t 7)]⟩,
     ⟨none, some 5, .asg (.t 8)⟩])
  (.seq (.region [⟨none, some 9, .mov (.t 5)⟩,
     ⟨none, some 10, .bin .neq (.t 9) (.c (.int .i64 0))⟩])
  (.cond (.t 10) (.seq (.region [⟨none, some 11, .mov (.t 5)⟩,
      ⟨none, some 4, .asg (.t 11)⟩])
   (.ret))
   (.skip))))
 (.seq (.region [⟨none, some 12, .mov (.t 0)⟩,
    ⟨none, some 13, .mov (.t 0)⟩,
    ⟨none, some 14, .nilchk (.t 13)⟩,
    ⟨none, some 15, .fld (.t 14) 1⟩,
    ⟨none, some 16, .ld (.t 15) none⟩,
    ⟨none, some 17, .mov (.t 1)⟩,
    ⟨none, some 18, .idx (.t 16) (.t 17) 3⟩,
    ⟨none, some 19, .ld (.t 18) (some 3)⟩,
    ⟨none, some 20, .call 27 [(.t 12), (.t 19)]⟩,
    ⟨none, some 4, .asg (.t 20)⟩])
 (.ret)))
theorem net_Net_Double.k : chkFn Go.Proofs.Try.prog 20 21 [.tmp 4] net_Net_Double.c = true := by kernel_rfl

/-- (*conclave/net.Net).Count: function 21; parameters: *net.Net; results: int, int, int -/
def net_Net_Count.c : ACode :=
 .seq (.region [⟨none, some 2, .asg (.c (.int .i64 0))⟩,
    ⟨none, some 3, .asg (.c (.int .i64 0))⟩,
    ⟨none, some 4, .asg (.c (.int .i64 0))⟩])
 (.seq (.seq (.region [⟨none, some 5, .mov (.t 0)⟩,
     ⟨none, some 6, .call 26 [(.t 5)]⟩])
  (.cond (.t 6) (.seq (.region [⟨none, some 2, .asg (.c (.int .i64 0))⟩,
      ⟨none, some 3, .asg (.c (.int .i64 0))⟩,
      ⟨none, some 4, .asg (.c (.int .i64 0))⟩])
   (.ret))
   (.skip)))
 (.seq (.draw [0, 1, 2, 4, 5, 6, 7, 8, 9, 10, 11, 3, 12, 13, 14] [(13, 7), (14, 7), (14, 11)] [⟨none, some 7, .mov (.t 0)⟩,
    ⟨none, some 8, .nilchk (.t 7)⟩,
    ⟨none, some 9, .fld (.t 8) 2⟩,
    ⟨none, some 10, .call 35 [(.t 9)]⟩,
    ⟨none, some 11, .mov (.t 0)⟩,
    ⟨none, some 12, .nilchk (.t 11)⟩,
    ⟨none, some 13, .fld (.t 12) 3⟩,
    ⟨none, some 14, .ld (.t 13) none⟩,
    ⟨none, some 15, .mov (.t 0)⟩,
    ⟨none, some 16, .nilchk (.t 15)⟩,
    ⟨none, some 17, .fld (.t 16) 4⟩,
    ⟨none, some 18, .ld (.t 17) none⟩,
    ⟨none, some 2, .asg (.t 10)⟩,
    ⟨none, some 3, .asg (.t 14)⟩,
    ⟨none, some 4, .asg (.t 18)⟩])
 (.ret)))
theorem net_Net_Count.k : chkFn Go.Proofs.Try.prog 21 19 [.tmp 2, .tmp 3, .tmp 4] net_Net_Count.c = true := by kernel_rfl

/-- (*conclave/net.Net).Copy: function 22; parameters: *net.Net; results: *net.Net -/
def net_Net_Copy.c : ACode :=
 .seq (.region [⟨none, some 2, .asg (.c (.lit (.pointer none)))⟩])
 (.seq (.seq (.region [⟨none, some 4, .mov (.t 0)⟩,
     ⟨none, some 5, .call 26 [(.t 4)]⟩])
  (.cond (.t 5) (.seq (.region [⟨none, some 2, .asg (.c (.lit (.pointer none)))⟩])
   (.ret))
   (.skip)))
 (.seq (.draw [0, 1, 2, 3, 4, 6, 7, 8, 9, 10, 11, 12, 13, 5, 14, 15, 16] [(15, 3), (15, 9), (15, 13), (16, 3), (16, 9), (16, 13)] [⟨none, some 6, .mov (.t 0)⟩,
    ⟨none, some 7, .nilchk (.t 6)⟩,
    ⟨none, some 8, .fld (.t 7) 0⟩,
    ⟨none, some 9, .ld (.t 8) none⟩,
    ⟨none, some 10, .mov (.t 0)⟩,
    ⟨none, some 11, .call 10 [(.t 10)]⟩,
    ⟨none, some 12, .mov (.t 0)⟩,
    ⟨none, some 13, .nilchk (.t 12)⟩,
    ⟨none, some 14, .fld (.t 13) 3⟩,
    ⟨none, some 15, .ld (.t 14) none⟩,
    ⟨none, some 16, .mov (.t 0)⟩,
    ⟨none, some 17, .nilchk (.t 16)⟩,
    ⟨none, some 18, .fld (.t 17) 4⟩,
    ⟨none, some 19, .ld (.t 18) none⟩,
    ⟨none, some 20, .build [.int .i64 0, .lit (.slice none 0 0), .int .i64 0, .int .i64 0, .int .i64 0] [(0, 1, (.t 9)), (1, 1, (.t 11)), (3, 1, (.t 15)), (4, 1, (.t 19))]⟩,
    ⟨none, some 21, .box (.t 20)⟩,
    ⟨none, some 3, .asg (.t 21)⟩])
 (.seq (.draw [0, 1, 2, 3, 4, 5, 6, 7] [] [⟨none, some 22, .mov (.t 3)⟩,
    ⟨none, some 23, .nilchk (.t 22)⟩,
    ⟨none, some 24, .fld (.t 23) 2⟩,
    ⟨none, some 25, .mov (.t 0)⟩,
    ⟨none, some 26, .nilchk (.t 25)⟩,
    ⟨none, some 27, .fld (.t 26) 2⟩,
    ⟨none, some 28, .call 35 [(.t 27)]⟩,
    ⟨none, some 29, .call 36 [(.t 24), (.t 28)]⟩])
 (.seq (.region [⟨none, some 30, .mov (.t 3)⟩,
    ⟨none, some 2, .asg (.t 30)⟩])
 (.ret)))))
theorem net_Net_Copy.k : chkFn Go.Proofs.Try.prog 22 31 [.tmp 2] net_Net_Copy.c = true := by kernel_rfl

end Go.Proofs.Ytapgnmigpfcdfaa.C
