import Derived.Test.YtapgnmigpfcdfaaAdef
import Derived.Test.YtapgnmigpfcdfaaProg
import Derived.KernelRfl
namespace Go.Proofs.Ytapgnmigpfcdfaa.C
open Go Go.RowKit Go.Proofs.Ytapgnmigpfcdfaa.AL

/-- conclave/conclaveref08.Same: function 30; parameters: []uint8, []uint8; results: bool -/
def ref08_Same.c : ACode :=
 .seq (.region [⟨none, some 4, .asg (.c (.bool false))⟩])
 (.seq (.region [⟨none, some 5, .mov (.t 0)⟩,
    ⟨none, some 6, .b2s (.t 5)⟩,
    ⟨none, some 7, .mov (.t 1)⟩,
    ⟨none, some 8, .b2s (.t 7)⟩,
    ⟨none, some 9, .bin .eql (.t 6) (.t 8)⟩,
    ⟨none, some 4, .asg (.t 9)⟩])
 (.ret))
theorem ref08_Same.k : chkFn Go.Proofs.Try.prog 30 10 [.tmp 4] ref08_Same.c = true := by kernel_rfl

/-- conclave/conclaveref08.Bytes: function 17; parameters: []uint8; results: []uint8 -/
def ref08_Bytes.c : ACode :=
 .seq (.region [⟨none, some 2, .asg (.c (.lit (.slice none 0 0)))⟩])
 (.seq (.region [⟨none, some 3, .bslice 0 [.int .u8 0] []⟩,
    ⟨none, some 4, .mov (.t 0)⟩,
    ⟨none, some 5, .app (.t 3) (.t 4) 1 1⟩,
    ⟨none, some 2, .asg (.t 5)⟩])
 (.ret))
theorem ref08_Bytes.k : chkFn Go.Proofs.Try.prog 17 6 [.tmp 2] ref08_Bytes.c = true := by kernel_rfl

/-- conclave/conclaveref08.Spoil: function 24; parameters: []uint8, uint8; results:  -/
def ref08_Spoil.c : ACode :=
 .seq (.seq (.region [⟨none, some 4, .asg (.c (.int .i64 0))⟩])
  (.block 0 (.loop (.seq (.seq (.region [⟨none, some 6, .mov (.t 4)⟩,
        ⟨none, some 7, .mov (.t 0)⟩,
        ⟨none, some 8, .len false (.t 7)⟩,
        ⟨none, some 9, .bin .lss (.t 6) (.t 8)⟩])
     (.cond (.t 9) (.skip)
      (.exit 0)))
    (.seq (.block 1 (.region [⟨none, some 12, .mov (.t 0)⟩,
        ⟨none, some 13, .mov (.t 4)⟩,
        ⟨none, some 14, .mov (.t 1)⟩,
        ⟨none, some 15, .mov (.t 4)⟩,
        ⟨none, some 16, .conv .u8 (.t 15)⟩,
        ⟨none, some 17, .bin .xor (.t 14) (.t 16)⟩,
        ⟨none, some 18, .idx (.t 12) (.t 13) 1⟩,
        ⟨none, none, .st (.t 18) (.t 17) 1⟩]))
    (.region [⟨none, some 10, .mov (.t 4)⟩,
      ⟨none, some 11, .bin .add (.t 10) (.c (.int .i64 1))⟩,
      ⟨none, some 4, .asg (.t 11)⟩]))))))
 (.seq (.region [⟨none, some 19, .mov (.t 0)⟩,
    ⟨none, some 20, .mov (.t 1)⟩,
    ⟨none, some 21, .mov (.t 1)⟩,
    ⟨none, some 22, .mov (.t 1)⟩,
    ⟨none, some 23, .bslice 3 [.int .u8 0] [(0, 1, (.t 20)), (1, 1, (.t 21)), (2, 1, (.t 22))]⟩,
    ⟨none, some 24, .app (.t 19) (.t 23) 1 1⟩,
    ⟨none, some 0, .asg (.t 24)⟩])
 (.seq (.region [⟨none, some 5, .asg (.c (.int .i64 0))⟩])
 (.block 2 (.loop (.seq (.seq (.region [⟨none, some 25, .mov (.t 5)⟩,
       ⟨none, some 26, .mov (.t 0)⟩,
       ⟨none, some 27, .len false (.t 26)⟩,
       ⟨none, some 28, .bin .lss (.t 25) (.t 27)⟩])
    (.cond (.t 28) (.skip)
     (.exit 2)))
   (.seq (.block 3 (.region [⟨none, some 31, .mov (.t 0)⟩,
       ⟨none, some 32, .mov (.t 5)⟩,
       ⟨none, some 33, .mov (.t 1)⟩,
       ⟨none, some 34, .idx (.t 31) (.t 32) 1⟩,
       ⟨none, none, .st (.t 34) (.t 33) 1⟩]))
   (.region [⟨none, some 29, .mov (.t 5)⟩,
     ⟨none, some 30, .bin .add (.t 29) (.c (.int .i64 1))⟩,
     ⟨none, some 5, .asg (.t 30)⟩])))))))
abbrev ref08_Spoil.D0 : List Nat := [4, 6, 7, 8, 9, 10, 11, 12, 13, 14, 15, 16, 17, 18]
abbrev ref08_Spoil.D1 : List Nat := [5, 25, 26, 27, 28, 29, 30, 31, 32, 33, 34]
abbrev ref08_Spoil.K0 : List Nat := [4, 6, 7, 8, 9, 10, 11, 12, 13, 14, 15, 16, 17, 18]
abbrev ref08_Spoil.K1 : List Nat := [12, 13, 14, 15, 16, 17, 18]
abbrev ref08_Spoil.K2 : List Nat := [5, 25, 26, 27, 28, 29, 30, 31, 32, 33, 34]
abbrev ref08_Spoil.K3 : List Nat := [31, 32, 33, 34]
theorem ref08_Spoil.k : chkFn Go.Proofs.Try.prog 24 35 [] ref08_Spoil.c = true := by kernel_rfl

/-- conclave/conclaveref21.One: function 13; parameters: api.Packet, api.Packet; results: bool -/
def ref21_One.c : ACode :=
 .seq (.region [⟨none, some 2, .box (.t 0)⟩,
    ⟨none, some 3, .box (.t 1)⟩,
    ⟨none, some 4, .asg (.c (.bool false))⟩])
 (.seq (.region [⟨none, some 5, .fld (.t 2) 0⟩,
    ⟨none, some 6, .ld (.t 5) none⟩,
    ⟨none, some 7, .fld (.t 3) 0⟩,
    ⟨none, some 8, .ld (.t 7) none⟩,
    ⟨none, some 9, .bin .eql (.t 6) (.t 8)⟩,
    ⟨none, some 10, .mov (.t 9)⟩,
    ⟨some (10, true), some 11, .fld (.t 2) 1⟩,
    ⟨some (10, true), some 12, .ld (.t 11) none⟩,
    ⟨some (10, true), some 13, .fld (.t 3) 1⟩,
    ⟨some (10, true), some 14, .ld (.t 13) none⟩,
    ⟨some (10, true), some 15, .bin .eql (.t 12) (.t 14)⟩,
    ⟨none, some 16, .pick (.t 10) (.t 15) (.c (.bool false))⟩,
    ⟨none, some 17, .mov (.t 16)⟩,
    ⟨some (17, true), some 18, .fld (.t 2) 2⟩,
    ⟨some (17, true), some 19, .ld (.t 18) none⟩,
    ⟨some (17, true), some 20, .fld (.t 3) 2⟩,
    ⟨some (17, true), some 21, .ld (.t 20) none⟩,
    ⟨some (17, true), some 22, .call 30 [(.t 19), (.t 21)]⟩,
    ⟨none, some 23, .pick (.t 17) (.t 22) (.c (.bool false))⟩,
    ⟨none, some 4, .asg (.t 23)⟩])
 (.ret))
theorem ref21_One.k : chkFn Go.Proofs.Try.prog 13 24 [.tmp 4] ref21_One.c = true := by kernel_rfl

/-- conclave/conclaveref21.Same: function 14; parameters: []api.Packet, []api.Packet; results: bool -/
def ref21_Same.c : ACode :=
 .seq (.region [⟨none, some 4, .asg (.c (.bool false))⟩])
 (.seq (.seq (.region [⟨none, some 6, .mov (.t 0)⟩,
     ⟨none, some 7, .len false (.t 6)⟩,
     ⟨none, some 8, .mov (.t 1)⟩,
     ⟨none, some 9, .len false (.t 8)⟩,
     ⟨none, some 10, .bin .neq (.t 7) (.t 9)⟩])
  (.cond (.t 10) (.seq (.region [⟨none, some 4, .asg (.c (.bool false))⟩])
   (.ret))
   (.skip)))
 (.seq (.seq (.region [⟨none, some 5, .asg (.c (.int .i64 0))⟩])
  (.block 0 (.loop (.seq (.seq (.region [⟨none, some 11, .mov (.t 5)⟩,
        ⟨none, some 12, .mov (.t 0)⟩,
        ⟨none, some 13, .len false (.t 12)⟩,
        ⟨none, some 14, .bin .lss (.t 11) (.t 13)⟩])
     (.cond (.t 14) (.skip)
      (.exit 0)))
    (.seq (.block 1 (.seq (.draw [0, 1, 2, 3, 4, 5, 6, 7, 8, 9] [(8, 3), (8, 7)] [⟨none, some 17, .mov (.t 0)⟩,
         ⟨none, some 18, .mov (.t 5)⟩,
         ⟨none, some 19, .idx (.t 17) (.t 18) 3⟩,
         ⟨none, some 20, .ld (.t 19) (some 3)⟩,
         ⟨none, some 21, .mov (.t 1)⟩,
         ⟨none, some 22, .mov (.t 5)⟩,
         ⟨none, some 23, .idx (.t 21) (.t 22) 3⟩,
         ⟨none, some 24, .ld (.t 23) (some 3)⟩,
         ⟨none, some 25, .call 13 [(.t 20), (.t 24)]⟩,
         ⟨none, some 26, .not (.t 25)⟩])
      (.cond (.t 26) (.seq (.region [⟨none, some 4, .asg (.c (.bool false))⟩])
       (.ret))
       (.skip))))
    (.region [⟨none, some 15, .mov (.t 5)⟩,
      ⟨none, some 16, .bin .add (.t 15) (.c (.int .i64 1))⟩,
      ⟨none, some 5, .asg (.t 16)⟩]))))))
 (.seq (.region [⟨none, some 4, .asg (.c (.bool true))⟩])
 (.ret))))
abbrev ref21_Same.D0 : List Nat := [4, 5, 11, 12, 13, 14, 15, 16, 17, 18, 19, 20, 21, 22, 23, 24, 25, 26]
abbrev ref21_Same.K0 : List Nat := [4, 5, 11, 12, 13, 14, 15, 16, 17, 18, 19, 20, 21, 22, 23, 24, 25, 26]
abbrev ref21_Same.K1 : List Nat := [4, 17, 18, 19, 20, 21, 22, 23, 24, 25, 26]
theorem ref21_Same.k : chkFn Go.Proofs.Try.prog 14 27 [.tmp 4] ref21_Same.c = true := by kernel_rfl

/-- conclave/conclaveref21.New: function 15; parameters: int; results: conclaveref21.Net, int -/
def ref21_New.c : ACode :=
 .seq (.region [⟨none, some 2, .alloc [.int .i64 0, .lit (.slice none 0 0), .int .i64 0, .int .i64 0, .int .i64 0]⟩,
    ⟨none, some 3, .asg (.c (.int .i64 0))⟩])
 (.seq (.seq (.region [⟨none, some 4, .mov (.t 0)⟩,
     ⟨none, some 5, .bin .lss (.t 4) (.c (.int .i64 1))⟩,
     ⟨none, some 6, .mov (.t 5)⟩,
     ⟨some (6, false), some 7, .mov (.t 0)⟩,
     ⟨some (6, false), some 8, .bin .gtr (.t 7) (.c (.int .i64 65))⟩,
     ⟨none, some 9, .pick (.t 6) (.c (.bool true)) (.t 8)⟩])
  (.cond (.t 9) (.seq (.region [⟨none, some 10, .build [.int .i64 0, .lit (.slice none 0 0), .int .i64 0, .int .i64 0, .int .i64 0] []⟩,
      ⟨none, none, .st (.t 2) (.t 10) 5⟩,
      ⟨none, some 3, .asg (.c (.int .i64 2))⟩])
   (.ret))
   (.skip)))
 (.seq (.region [⟨none, some 11, .mov (.t 0)⟩,
    ⟨none, some 12, .build [.int .i64 0, .lit (.slice none 0 0), .int .i64 0, .int .i64 0, .int .i64 0] [(0, 1, (.t 11))]⟩,
    ⟨none, none, .st (.t 2) (.t 12) 5⟩,
    ⟨none, some 3, .asg (.c (.int .i64 0))⟩])
 (.ret)))
theorem ref21_New.k : chkFn Go.Proofs.Try.prog 15 13 [.cell 2 (some 5), .tmp 3] ref21_New.c = true := by kernel_rfl

/-- (*conclave/conclaveref21.Net).Send: function 23; parameters: *conclaveref21.Net, int, int, []uint8; results: int -/
def conclaveref21_Net_Send.c : ACode :=
 .seq (.region [⟨none, some 8, .asg (.c (.int .i64 0))⟩])
 (.seq (.seq (.region [⟨none, some 9, .mov (.t 1)⟩,
     ⟨none, some 10, .bin .lss (.t 9) (.c (.int .i64 0))⟩,
     ⟨none, some 11, .mov (.t 10)⟩,
     ⟨some (11, false), some 12, .mov (.t 1)⟩,
     ⟨some (11, false), some 13, .mov (.t 0)⟩,
     ⟨some (11, false), some 14, .nilchk (.t 13)⟩,
     ⟨some (11, false), some 15, .fld (.t 14) 0⟩,
     ⟨some (11, false), some 16, .ld (.t 15) none⟩,
     ⟨some (11, false), some 17, .bin .geq (.t 12) (.t 16)⟩,
     ⟨none, some 18, .pick (.t 11) (.c (.bool true)) (.t 17)⟩,
     ⟨none, some 19, .mov (.t 18)⟩,
     ⟨some (19, false), some 20, .mov (.t 2)⟩,
     ⟨some (19, false), some 21, .bin .lss (.t 20) (.c (.int .i64 0))⟩,
     ⟨none, some 22, .pick (.t 19) (.c (.bool true)) (.t 21)⟩,
     ⟨none, some 23, .mov (.t 22)⟩,
     ⟨some (23, false), some 24, .mov (.t 2)⟩,
     ⟨some (23, false), some 25, .mov (.t 0)⟩,
     ⟨some (23, false), some 26, .nilchk (.t 25)⟩,
     ⟨some (23, false), some 27, .fld (.t 26) 0⟩,
     ⟨some (23, false), some 28, .ld (.t 27) none⟩,
     ⟨some (23, false), some 29, .bin .geq (.t 24) (.t 28)⟩,
     ⟨none, some 30, .pick (.t 23) (.c (.bool true)) (.t 29)⟩])
  (.cond (.t 30) (.seq (.region [⟨none, some 8, .asg (.c (.int .i64 2))⟩])
   (.ret))
   (.skip)))
 (.seq (.seq (.region [⟨none, some 31, .mov (.t 0)⟩,
     ⟨none, some 32, .nilchk (.t 31)⟩,
     ⟨none, some 33, .fld (.t 32) 1⟩,
     ⟨none, some 34, .ld (.t 33) none⟩,
     ⟨none, some 35, .len false (.t 34)⟩,
     ⟨none, some 36, .bin .geq (.t 35) (.c (.int .i64 4096))⟩,
     ⟨none, some 37, .mov (.t 36)⟩,
     ⟨some (37, false), some 38, .mov (.t 3)⟩,
     ⟨some (37, false), some 39, .len false (.t 38)⟩,
     ⟨some (37, false), some 40, .bin .gtr (.t 39) (.c (.int .i64 1048576))⟩,
     ⟨none, some 41, .pick (.t 37) (.c (.bool true)) (.t 40)⟩])
  (.cond (.t 41) (.seq (.region [⟨none, some 8, .asg (.c (.int .i64 4))⟩])
   (.ret))
   (.skip)))
 (.seq (.draw [0, 1, 2, 3, 4, 5, 6, 7, 8, 9, 10, 11, 12, 13, 14] [(11, 4), (14, 4)] [⟨none, some 42, .mov (.t 0)⟩,
    ⟨none, some 43, .mov (.t 0)⟩,
    ⟨none, some 44, .nilchk (.t 43)⟩,
    ⟨none, some 45, .fld (.t 44) 1⟩,
    ⟨none, some 46, .ld (.t 45) none⟩,
    ⟨none, some 47, .mov (.t 1)⟩,
    ⟨none, some 48, .mov (.t 2)⟩,
    ⟨none, some 49, .mov (.t 3)⟩,
    ⟨none, some 50, .call 17 [(.t 49)]⟩,
    ⟨none, some 51, .build [.int .i64 0, .int .i64 0, .lit (.slice none 0 0)] [(0, 1, (.t 47)), (1, 1, (.t 48)), (2, 1, (.t 50))]⟩,
    ⟨none, some 52, .bslice 1 [.int .i64 0, .int .i64 0, .lit (.slice none 0 0)] [(0, 3, (.t 51))]⟩,
    ⟨none, some 53, .app (.t 46) (.t 52) 3 40⟩,
    ⟨none, some 54, .nilchk (.t 42)⟩,
    ⟨none, some 55, .fld (.t 54) 1⟩,
    ⟨none, none, .st (.t 55) (.t 53) 1⟩])
 (.seq (.region [⟨none, some 56, .mov (.t 0)⟩,
    ⟨none, some 57, .nilchk (.t 56)⟩,
    ⟨none, some 58, .fld (.t 57) 2⟩,
    ⟨none, some 59, .ld (.t 58) none⟩,
    ⟨none, some 60, .bin .add (.t 59) (.c (.int .i64 1))⟩,
    ⟨none, some 61, .nilchk (.t 56)⟩,
    ⟨none, some 62, .fld (.t 61) 2⟩,
    ⟨none, none, .st (.t 62) (.t 60) 1⟩])
 (.seq (.region [⟨none, some 8, .asg (.c (.int .i64 0))⟩])
 (.ret))))))
theorem conclaveref21_Net_Send.k : chkFn Go.Proofs.Try.prog 23 63 [.tmp 8] conclaveref21_Net_Send.c = true := by kernel_rfl

/-- (*conclave/conclaveref21.Net).Deliver: function 25; parameters: *conclaveref21.Net, int; results: api.Packet, int -/
def conclaveref21_Net_Deliver.c : ACode :=
 .seq (.region [⟨none, some 4, .alloc [.int .i64 0, .int .i64 0, .lit (.slice none 0 0)]⟩,
    ⟨none, some 5, .asg (.c (.int .i64 0))⟩])
 (.seq (.seq (.region [⟨none, some 6, .mov (.t 0)⟩,
     ⟨none, some 7, .mov (.t 1)⟩,
     ⟨none, some 8, .call 37 [(.t 6), (.t 7)]⟩,
     ⟨none, some 9, .not (.t 8)⟩])
  (.cond (.t 9) (.seq (.region [⟨none, some 10, .build [.int .i64 0, .int .i64 0, .lit (.slice none 0 0)] []⟩,
      ⟨none, none, .st (.t 4) (.t 10) 3⟩,
      ⟨none, some 5, .asg (.c (.int .i64 2))⟩])
   (.ret))
   (.skip)))
 (.seq (.region [⟨none, some 11, .mov (.t 0)⟩,
    ⟨none, some 12, .nilchk (.t 11)⟩,
    ⟨none, some 13, .fld (.t 12) 3⟩,
    ⟨none, some 14, .ld (.t 13) none⟩,
    ⟨none, some 15, .bin .add (.t 14) (.c (.int .i64 1))⟩,
    ⟨none, some 16, .nilchk (.t 11)⟩,
    ⟨none, some 17, .fld (.t 16) 3⟩,
    ⟨none, none, .st (.t 17) (.t 15) 1⟩])
 (.seq (.region [⟨none, some 18, .mov (.t 0)⟩,
    ⟨none, some 19, .mov (.t 1)⟩,
    ⟨none, some 20, .call 38 [(.t 18), (.t 19)]⟩,
    ⟨none, none, .st (.t 4) (.t 20) 3⟩,
    ⟨none, some 5, .asg (.c (.int .i64 0))⟩])
 (.ret))))
theorem conclaveref21_Net_Deliver.k : chkFn Go.Proofs.Try.prog 25 21 [.cell 4 (some 3), .tmp 5] conclaveref21_Net_Deliver.c = true := by kernel_rfl

/-- (*conclave/conclaveref21.Net).has: function 37; parameters: *conclaveref21.Net, int; results: bool -/
def conclaveref21_Net_has.c : ACode :=
 .seq (.region [⟨none, some 4, .asg (.c (.bool false))⟩])
 (.seq (.region [⟨none, some 5, .mov (.t 1)⟩,
    ⟨none, some 6, .bin .geq (.t 5) (.c (.int .i64 0))⟩,
    ⟨none, some 7, .mov (.t 6)⟩,
    ⟨some (7, true), some 8, .mov (.t 1)⟩,
    ⟨some (7, true), some 9, .mov (.t 0)⟩,
    ⟨some (7, true), some 10, .nilchk (.t 9)⟩,
    ⟨some (7, true), some 11, .fld (.t 10) 1⟩,
    ⟨some (7, true), some 12, .ld (.t 11) none⟩,
    ⟨some (7, true), some 13, .len false (.t 12)⟩,
    ⟨some (7, true), some 14, .bin .lss (.t 8) (.t 13)⟩,
    ⟨none, some 15, .pick (.t 7) (.t 14) (.c (.bool false))⟩,
    ⟨none, some 4, .asg (.t 15)⟩])
 (.ret))
theorem conclaveref21_Net_has.k : chkFn Go.Proofs.Try.prog 37 16 [.tmp 4] conclaveref21_Net_has.c = true := by kernel_rfl

/-- (*conclave/conclaveref21.Net).take: function 38; parameters: *conclaveref21.Net, int; results: api.Packet -/
def conclaveref21_Net_take.c : ACode :=
 .seq (.region [⟨none, some 4, .alloc [.int .i64 0, .int .i64 0, .lit (.slice none 0 0)]⟩])
 (.seq (.region [⟨none, some 6, .mov (.t 0)⟩,
    ⟨none, some 7, .nilchk (.t 6)⟩,
    ⟨none, some 8, .fld (.t 7) 1⟩,
    ⟨none, some 9, .ld (.t 8) none⟩,
    ⟨none, some 10, .mov (.t 1)⟩,
    ⟨none, some 11, .idx (.t 9) (.t 10) 3⟩,
    ⟨none, some 12, .ld (.t 11) (some 3)⟩,
    ⟨none, some 5, .alloc [.int .i64 0, .int .i64 0, .lit (.slice none 0 0)]⟩,
    ⟨none, none, .st (.t 5) (.t 12) 3⟩])
 (.seq (.draw [0, 2, 3, 4, 5, 6, 7, 9, 10, 11, 12, 13, 14, 15, 1, 8, 16, 17, 18, 19] [(8, 5), (8, 7), (16, 5), (16, 7), (16, 12), (16, 15), (19, 5), (19, 7), (19, 12), (19, 15)] [⟨none, some 13, .mov (.t 0)⟩,
    ⟨none, some 14, .bslice 0 [.int .i64 0, .int .i64 0, .lit (.slice none 0 0)] []⟩,
    ⟨none, some 15, .mov (.t 0)⟩,
    ⟨none, some 16, .nilchk (.t 15)⟩,
    ⟨none, some 17, .fld (.t 16) 1⟩,
    ⟨none, some 18, .ld (.t 17) none⟩,
    ⟨none, some 19, .mov (.t 1)⟩,
    ⟨none, some 20, .slc (.t 18) none (some (.t 19)) none 3⟩,
    ⟨none, some 21, .app (.t 14) (.t 20) 3 40⟩,
    ⟨none, some 22, .mov (.t 0)⟩,
    ⟨none, some 23, .nilchk (.t 22)⟩,
    ⟨none, some 24, .fld (.t 23) 1⟩,
    ⟨none, some 25, .ld (.t 24) none⟩,
    ⟨none, some 26, .mov (.t 1)⟩,
    ⟨none, some 27, .bin .add (.t 26) (.c (.int .i64 1))⟩,
    ⟨none, some 28, .slc (.t 25) (some (.t 27)) none none 3⟩,
    ⟨none, some 29, .app (.t 21) (.t 28) 3 40⟩,
    ⟨none, some 30, .nilchk (.t 13)⟩,
    ⟨none, some 31, .fld (.t 30) 1⟩,
    ⟨none, none, .st (.t 31) (.t 29) 1⟩])
 (.seq (.region [⟨none, some 32, .ld (.t 5) (some 3)⟩,
    ⟨none, none, .st (.t 4) (.t 32) 3⟩])
 (.ret))))
theorem conclaveref21_Net_take.k : chkFn Go.Proofs.Try.prog 38 33 [.cell 4 (some 3)] conclaveref21_Net_take.c = true := by kernel_rfl

/-- (*conclave/conclaveref21.Net).Drop: function 31; parameters: *conclaveref21.Net, int; results: int -/
def conclaveref21_Net_Drop.c : ACode :=
 .seq (.region [⟨none, some 4, .asg (.c (.int .i64 0))⟩])
 (.seq (.seq (.region [⟨none, some 5, .mov (.t 0)⟩,
     ⟨none, some 6, .mov (.t 1)⟩,
     ⟨none, some 7, .call 37 [(.t 5), (.t 6)]⟩,
     ⟨none, some 8, .not (.t 7)⟩])
  (.cond (.t 8) (.seq (.region [⟨none, some 4, .asg (.c (.int .i64 2))⟩])
   (.ret))
   (.skip)))
 (.seq (.region [⟨none, some 9, .mov (.t 0)⟩,
    ⟨none, some 10, .nilchk (.t 9)⟩,
    ⟨none, some 11, .fld (.t 10) 4⟩,
    ⟨none, some 12, .ld (.t 11) none⟩,
    ⟨none, some 13, .bin .add (.t 12) (.c (.int .i64 1))⟩,
    ⟨none, some 14, .nilchk (.t 9)⟩,
    ⟨none, some 15, .fld (.t 14) 4⟩,
    ⟨none, none, .st (.t 15) (.t 13) 1⟩])
 (.seq (.region [⟨none, some 16, .mov (.t 0)⟩,
    ⟨none, some 17, .mov (.t 1)⟩,
    ⟨none, some 18, .call 38 [(.t 16), (.t 17)]⟩])
 (.seq (.region [⟨none, some 4, .asg (.c (.int .i64 0))⟩])
 (.ret)))))
theorem conclaveref21_Net_Drop.k : chkFn Go.Proofs.Try.prog 31 19 [.tmp 4] conclaveref21_Net_Drop.c = true := by kernel_rfl

/-- (*conclave/conclaveref21.Net).Double: function 32; parameters: *conclaveref21.Net, int; results: int -/
def conclaveref21_Net_Double.c : ACode :=
 .seq (.region [⟨none, some 4, .asg (.c (.int .i64 0))⟩])
 (.seq (.seq (.region [⟨none, some 5, .mov (.t 0)⟩,
     ⟨none, some 6, .mov (.t 1)⟩,
     ⟨none, some 7, .call 37 [(.t 5), (.t 6)]⟩,
     ⟨none, some 8, .not (.t 7)⟩])
  (.cond (.t 8) (.seq (.region [⟨none, some 4, .asg (.c (.int .i64 2))⟩])
   (.ret))
   (.skip)))
 (.seq (.draw [0, 1, 2, 3, 4, 5, 6, 7, 8, 9, 10, 11, 12, 13, 14, 15, 16, 17, 18, 19, 20, 21, 22, 23, 24, 25, 26] [(25, 4), (25, 8), (25, 12), (25, 16), (25, 20), (25, 24), (26, 4), (26, 8), (26, 12), (26, 16), (26, 20), (26, 24)] [⟨none, some 9, .mov (.t 0)⟩,
    ⟨none, some 10, .mov (.t 0)⟩,
    ⟨none, some 11, .nilchk (.t 10)⟩,
    ⟨none, some 12, .fld (.t 11) 1⟩,
    ⟨none, some 13, .ld (.t 12) none⟩,
    ⟨none, some 14, .mov (.t 1)⟩,
    ⟨none, some 15, .idx (.t 13) (.t 14) 3⟩,
    ⟨none, some 16, .fld (.t 15) 0⟩,
    ⟨none, some 17, .ld (.t 16) none⟩,
    ⟨none, some 18, .mov (.t 0)⟩,
    ⟨none, some 19, .nilchk (.t 18)⟩,
    ⟨none, some 20, .fld (.t 19) 1⟩,
    ⟨none, some 21, .ld (.t 20) none⟩,
    ⟨none, some 22, .mov (.t 1)⟩,
    ⟨none, some 23, .idx (.t 21) (.t 22) 3⟩,
    ⟨none, some 24, .fld (.t 23) 1⟩,
    ⟨none, some 25, .ld (.t 24) none⟩,
    ⟨none, some 26, .mov (.t 0)⟩,
    ⟨none, some 27, .nilchk (.t 26)⟩,
    ⟨none, some 28, .fld (.t 27) 1⟩,
    ⟨none, some 29, .ld (.t 28) none⟩,
    ⟨none, some 30, .mov (.t 1)⟩,
    ⟨none, some 31, .idx (.t 29) (.t 30) 3⟩,
    ⟨none, some 32, .fld (.t 31) 2⟩,
    ⟨none, some 33, .ld (.t 32) none⟩,
    ⟨none, some 34, .call 23 [(.t 9), (.t 17), (.t 25), (.t 33)]⟩,
    ⟨none, some 4, .asg (.t 34)⟩])
 (.ret)))
theorem conclaveref21_Net_Double.k : chkFn Go.Proofs.Try.prog 32 35 [.tmp 4] conclaveref21_Net_Double.c = true := by kernel_rfl

/-- (*conclave/conclaveref21.Net).Move: function 33; parameters: *conclaveref21.Net, int, int; results: int -/
def conclaveref21_Net_Move.c : ACode :=
 .seq (.region [⟨none, some 6, .asg (.c (.int .i64 0))⟩])
 (.seq (.seq (.region [⟨none, some 9, .mov (.t 0)⟩,
     ⟨none, some 10, .mov (.t 1)⟩,
     ⟨none, some 11, .call 37 [(.t 9), (.t 10)]⟩,
     ⟨none, some 12, .not (.t 11)⟩,
     ⟨none, some 13, .mov (.t 12)⟩,
     ⟨some (13, false), some 14, .mov (.t 0)⟩,
     ⟨some (13, false), some 15, .mov (.t 2)⟩,
     ⟨some (13, false), some 16, .call 37 [(.t 14), (.t 15)]⟩,
     ⟨some (13, false), some 17, .not (.t 16)⟩,
     ⟨none, some 18, .pick (.t 13) (.c (.bool true)) (.t 17)⟩])
  (.cond (.t 18) (.seq (.region [⟨none, some 6, .asg (.c (.int .i64 2))⟩])
   (.ret))
   (.skip)))
 (.seq (.region [⟨none, some 19, .mov (.t 0)⟩,
    ⟨none, some 20, .mov (.t 1)⟩,
    ⟨none, some 21, .call 38 [(.t 19), (.t 20)]⟩,
    ⟨none, some 7, .alloc [.int .i64 0, .int .i64 0, .lit (.slice none 0 0)]⟩,
    ⟨none, none, .st (.t 7) (.t 21) 3⟩])
 (.seq (.region [⟨none, some 22, .bslice 0 [.int .i64 0, .int .i64 0, .lit (.slice none 0 0)] []⟩,
    ⟨none, some 23, .mov (.t 0)⟩,
    ⟨none, some 24, .nilchk (.t 23)⟩,
    ⟨none, some 25, .fld (.t 24) 1⟩,
    ⟨none, some 26, .ld (.t 25) none⟩,
    ⟨none, some 27, .mov (.t 2)⟩,
    ⟨none, some 28, .slc (.t 26) none (some (.t 27)) none 3⟩,
    ⟨none, some 29, .app (.t 22) (.t 28) 3 40⟩,
    ⟨none, some 8, .asg (.t 29)⟩])
 (.seq (.draw [0, 1, 2, 5, 6, 7, 8, 9, 10, 3, 4, 11, 12, 13, 14] [(3, 2), (4, 2), (11, 2), (11, 8), (11, 10), (14, 2), (14, 8), (14, 10)] [⟨none, some 30, .mov (.t 0)⟩,
    ⟨none, some 31, .mov (.t 8)⟩,
    ⟨none, some 32, .ld (.t 7) (some 3)⟩,
    ⟨none, some 33, .bslice 1 [.int .i64 0, .int .i64 0, .lit (.slice none 0 0)] [(0, 3, (.t 32))]⟩,
    ⟨none, some 34, .app (.t 31) (.t 33) 3 40⟩,
    ⟨none, some 35, .mov (.t 0)⟩,
    ⟨none, some 36, .nilchk (.t 35)⟩,
    ⟨none, some 37, .fld (.t 36) 1⟩,
    ⟨none, some 38, .ld (.t 37) none⟩,
    ⟨none, some 39, .mov (.t 2)⟩,
    ⟨none, some 40, .slc (.t 38) (some (.t 39)) none none 3⟩,
    ⟨none, some 41, .app (.t 34) (.t 40) 3 40⟩,
    ⟨none, some 42, .nilchk (.t 30)⟩,
    ⟨none, some 43, .fld (.t 42) 1⟩,
    ⟨none, none, .st (.t 43) (.t 41) 1⟩])
 (.seq (.region [⟨none, some 6, .asg (.c (.int .i64 0))⟩])
 (.ret))))))
theorem conclaveref21_Net_Move.k : chkFn Go.Proofs.Try.prog 33 44 [.tmp 6] conclaveref21_Net_Move.c = true := by kernel_rfl

end Go.Proofs.Ytapgnmigpfcdfaa.C
