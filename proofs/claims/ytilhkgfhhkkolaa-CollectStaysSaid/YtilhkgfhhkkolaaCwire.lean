import Derived.Test.YtilhkgfhhkkolaaAdef
import Derived.Test.YtilhkgfhhkkolaaProg
import Derived.KernelRfl
namespace Go.Proofs.Ytilhkgfhhkkolaa.C
open Go Go.RowKit Go.Proofs.Ytilhkgfhhkkolaa.AL

/-- conclave/wire.Sum: function 38; parameters: []uint8; results: uint64 -/
def wire_Sum.c : ACode :=
 .seq (.region [⟨none, some 2, .asg (.c (.int .u64 0))⟩])
 (.seq (.region [⟨none, some 3, .asg (.c (.int .u64 14695981039346656037))⟩])
 (.seq (.seq (.region [⟨none, some 6, .mov (.t 0)⟩,
     ⟨none, some 7, .len false (.t 6)⟩,
     ⟨none, some 8, .mov (.c (.int .i64 0))⟩])
  (.block 0 (.loop (.seq (.region [⟨none, some 9, .bin .lss (.t 8) (.t 7)⟩])
    (.seq (.cond (.t 9) (.skip)
      (.exit 0))
    (.seq (.block 1 (.seq (.region [⟨none, some 10, .idx (.t 6) (.t 8) 1⟩,
         ⟨none, some 11, .ld (.t 10) none⟩,
         ⟨none, some 5, .asg (.t 11)⟩])
      (.seq (.region [⟨none, some 12, .mov (.t 3)⟩,
         ⟨none, some 13, .mov (.t 5)⟩,
         ⟨none, some 14, .conv .u64 (.t 13)⟩,
         ⟨none, some 15, .bin .xor (.t 12) (.t 14)⟩,
         ⟨none, some 3, .asg (.t 15)⟩])
      (.region [⟨none, some 16, .mov (.t 3)⟩,
        ⟨none, some 17, .bin .mul (.t 16) (.c (.int .u64 1099511628211))⟩,
        ⟨none, some 3, .asg (.t 17)⟩]))))
    (.region [⟨none, some 18, .bin .add (.t 8) (.c (.int .i64 1))⟩,
      ⟨none, some 8, .mov (.t 18)⟩])))))))
 (.seq (.region [⟨none, some 19, .mov (.t 3)⟩,
    ⟨none, some 2, .asg (.t 19)⟩])
 (.ret))))
abbrev wire_Sum.D0 : List Nat := [3, 5, 8, 9, 10, 11, 12, 13, 14, 15, 16, 17, 18]
abbrev wire_Sum.K0 : List Nat := [3, 5, 8, 9, 10, 11, 12, 13, 14, 15, 16, 17, 18]
abbrev wire_Sum.K1 : List Nat := [3, 5, 10, 11, 12, 13, 14, 15, 16, 17]
theorem wire_Sum.k : chkFn Go.Proofs.Try.prog 38 20 [.tmp 2] wire_Sum.c = true := by kernel_rfl

/-- conclave/wire.taker: function 37; parameters: []uint8; results: func(int) uint64 -/
def wire_taker.c : ACode :=
 .seq (.region [⟨none, some 1, .box (.t 0)⟩,
    ⟨none, some 2, .asg (.c (.lit .nilFunc))⟩])
 (.seq (.region [⟨none, some 3, .mkfn (.func 51) [] [(.t 1)]⟩,
    ⟨none, some 2, .asg (.t 3)⟩])
 (.ret))
theorem wire_taker.k : chkFn Go.Proofs.Try.prog 37 4 [.tmp 2] wire_taker.c = true := by kernel_rfl

/-- conclave/wire.taker$1: function 51; parameters: int; results: uint64 -/
def wire_taker_1.c : ACode :=
 .seq (.region [⟨none, some 3, .asg (.c (.int .u64 0))⟩])
 (.seq (.region [⟨none, some 4, .asg (.c (.int .u64 0))⟩])
 (.seq (.seq (.region [⟨none, some 7, .ld (.t 1) none⟩,
     ⟨none, some 8, .mov (.t 0)⟩,
     ⟨none, some 9, .slc (.t 7) none (some (.t 8)) none 1⟩,
     ⟨none, some 10, .len false (.t 9)⟩,
     ⟨none, some 11, .mov (.c (.int .i64 0))⟩])
  (.block 0 (.loop (.seq (.region [⟨none, some 12, .bin .lss (.t 11) (.t 10)⟩])
    (.seq (.cond (.t 12) (.skip)
      (.exit 0))
    (.seq (.block 1 (.seq (.region [⟨none, some 13, .idx (.t 9) (.t 11) 1⟩,
         ⟨none, some 14, .ld (.t 13) none⟩,
         ⟨none, some 6, .asg (.t 14)⟩])
      (.region [⟨none, some 15, .mov (.t 4)⟩,
        ⟨none, some 16, .bin .shl (.t 15) (.c (.int .u64 8))⟩,
        ⟨none, some 17, .mov (.t 6)⟩,
        ⟨none, some 18, .conv .u64 (.t 17)⟩,
        ⟨none, some 19, .bin .or (.t 16) (.t 18)⟩,
        ⟨none, some 4, .asg (.t 19)⟩])))
    (.region [⟨none, some 20, .bin .add (.t 11) (.c (.int .i64 1))⟩,
      ⟨none, some 11, .mov (.t 20)⟩])))))))
 (.seq (.region [⟨none, some 21, .ld (.t 1) none⟩,
    ⟨none, some 22, .mov (.t 0)⟩,
    ⟨none, some 23, .ld (.t 1) none⟩,
    ⟨none, some 24, .len false (.t 23)⟩,
    ⟨none, some 25, .ld (.t 1) none⟩,
    ⟨none, some 26, .len false (.t 25)⟩,
    ⟨none, some 27, .slc (.t 21) (some (.t 22)) (some (.t 24)) (some (.t 26)) 1⟩,
    ⟨none, none, .st (.t 1) (.t 27) 1⟩])
 (.seq (.region [⟨none, some 28, .mov (.t 4)⟩,
    ⟨none, some 3, .asg (.t 28)⟩])
 (.ret)))))
abbrev wire_taker_1.D0 : List Nat := [4, 6, 11, 12, 13, 14, 15, 16, 17, 18, 19, 20]
abbrev wire_taker_1.K0 : List Nat := [4, 6, 11, 12, 13, 14, 15, 16, 17, 18, 19, 20]
abbrev wire_taker_1.K1 : List Nat := [4, 6, 13, 14, 15, 16, 17, 18, 19]
theorem wire_taker_1.k : chkFn Go.Proofs.Try.prog 51 29 [.tmp 3] wire_taker_1.c = true := by kernel_rfl

/-- conclave/wire.ReadCount: function 36; parameters: []uint8; results: int, int, api.Errno -/
def wire_ReadCount.c : ACode :=
 .seq (.region [⟨none, some 2, .asg (.c (.int .i64 0))⟩,
    ⟨none, some 3, .asg (.c (.int .i64 0))⟩,
    ⟨none, some 4, .asg (.c (.int .i64 0))⟩])
 (.seq (.seq (.region [⟨none, some 6, .mov (.t 0)⟩,
     ⟨none, some 7, .len false (.t 6)⟩,
     ⟨none, some 8, .bin .lss (.t 7) (.c (.int .i64 4))⟩])
  (.cond (.t 8) (.seq (.region [⟨none, some 2, .asg (.c (.int .i64 0))⟩,
      ⟨none, some 3, .asg (.c (.int .i64 0))⟩,
      ⟨none, some 4, .asg (.c (.int .i64 7))⟩])
   (.ret))
   (.skip)))
 (.seq (.region [⟨none, some 9, .mov (.t 0)⟩,
    ⟨none, some 10, .call 37 [(.t 9)]⟩,
    ⟨none, some 11, .callv (.t 10) [(.c (.int .i64 4))]⟩,
    ⟨none, some 5, .asg (.t 11)⟩])
 (.seq (.seq (.region [⟨none, some 12, .mov (.t 5)⟩,
     ⟨none, some 13, .bin .gtr (.t 12) (.c (.int .u64 2147483647))⟩])
  (.cond (.t 13) (.seq (.region [⟨none, some 2, .asg (.c (.int .i64 0))⟩,
      ⟨none, some 3, .asg (.c (.int .i64 0))⟩,
      ⟨none, some 4, .asg (.c (.int .i64 8))⟩])
   (.ret))
   (.skip)))
 (.seq (.region [⟨none, some 14, .mov (.t 5)⟩,
    ⟨none, some 15, .conv .i64 (.t 14)⟩,
    ⟨none, some 2, .asg (.t 15)⟩,
    ⟨none, some 3, .asg (.c (.int .i64 4))⟩,
    ⟨none, some 4, .asg (.c (.int .i64 0))⟩])
 (.ret)))))
theorem wire_ReadCount.k : chkFn Go.Proofs.Try.prog 36 16 [.tmp 2, .tmp 3, .tmp 4] wire_ReadCount.c = true := by kernel_rfl

/-- conclave/wire.width: function 53; parameters: api.Field; results: int -/
def wire_width.c : ACode :=
 .seq (.region [⟨none, some 2, .asg (.c (.int .i64 0))⟩])
 (.seq (.seq (.region [⟨none, some 3, .mov (.t 0)⟩,
     ⟨none, some 4, .bin .eql (.t 3) (.c (.int .u8 1))⟩])
  (.cond (.t 4) (.seq (.region [⟨none, some 2, .asg (.c (.int .i64 4))⟩])
   (.ret))
   (.skip)))
 (.seq (.region [⟨none, some 2, .asg (.c (.int .i64 8))⟩])
 (.ret)))
theorem wire_width.k : chkFn Go.Proofs.Try.prog 53 5 [.tmp 2] wire_width.c = true := by kernel_rfl

/-- conclave/wire.ReadList: function 45; parameters: []uint8; results: api.Field, []uint64, int, api.Errno -/
def wire_ReadList.c : ACode :=
 .seq (.region [⟨none, some 2, .asg (.c (.int .u8 0))⟩,
    ⟨none, some 3, .asg (.c (.lit (.slice none 0 0)))⟩,
    ⟨none, some 4, .asg (.c (.int .i64 0))⟩,
    ⟨none, some 5, .asg (.c (.int .i64 0))⟩])
 (.seq (.seq (.region [⟨none, some 9, .mov (.t 0)⟩,
     ⟨none, some 10, .len false (.t 9)⟩,
     ⟨none, some 11, .bin .eql (.t 10) (.c (.int .i64 0))⟩])
  (.cond (.t 11) (.seq (.region [⟨none, some 2, .asg (.c (.int .u8 0))⟩,
      ⟨none, some 3, .asg (.c (.lit (.slice none 0 0)))⟩,
      ⟨none, some 4, .asg (.c (.int .i64 0))⟩,
      ⟨none, some 5, .asg (.c (.int .i64 7))⟩])
   (.ret))
   (.skip)))
 (.seq (.region [⟨none, some 12, .mov (.t 0)⟩,
    ⟨none, some 13, .idx (.t 12) (.c (.int .i64 0)) 1⟩,
    ⟨none, some 14, .ld (.t 13) none⟩,
    ⟨none, some 2, .asg (.t 14)⟩])
 (.seq (.seq (.region [⟨none, some 15, .mov (.t 2)⟩,
     ⟨none, some 16, .call 52 [(.t 15), (.c (.lit (.slice none 0 0)))]⟩,
     ⟨none, some 17, .not (.t 16)⟩])
  (.cond (.t 17) (.seq (.region [⟨none, some 2, .asg (.c (.int .u8 0))⟩,
      ⟨none, some 3, .asg (.c (.lit (.slice none 0 0)))⟩,
      ⟨none, some 4, .asg (.c (.int .i64 0))⟩,
      ⟨none, some 5, .asg (.c (.int .i64 8))⟩])
   (.ret))
   (.skip)))
 (.seq (.region [⟨none, some 19, .mov (.t 0)⟩,
    ⟨none, some 20, .slc (.t 19) (some (.c (.int .i64 1))) none none 1⟩,
    ⟨none, some 21, .call 36 [(.t 20)]⟩,
    ⟨none, some 18, .mov (.t 21)⟩,
    ⟨none, some 22, .ext (.t 18) 0⟩,
    ⟨none, some 23, .ext (.t 18) 1⟩,
    ⟨none, some 24, .ext (.t 18) 2⟩,
    ⟨none, some 6, .asg (.t 22)⟩,
    ⟨none, some 7, .asg (.t 23)⟩,
    ⟨none, some 5, .asg (.t 24)⟩])
 (.seq (.region [⟨none, some 25, .mov (.t 7)⟩,
    ⟨none, some 26, .bin .add (.t 25) (.c (.int .i64 1))⟩,
    ⟨none, some 7, .asg (.t 26)⟩])
 (.seq (.block 0 (.seq (.region [⟨none, some 28, .mov (.t 5)⟩,
      ⟨none, some 29, .bin .neq (.t 28) (.c (.int .i64 0))⟩,
      ⟨none, some 27, .asg (.t 29)⟩])
   (.cond (.t 27) (.seq (.region [⟨none, some 30, .mov (.t 5)⟩,
       ⟨none, some 2, .asg (.c (.int .u8 0))⟩,
       ⟨none, some 3, .asg (.c (.lit (.slice none 0 0)))⟩,
       ⟨none, some 4, .asg (.c (.int .i64 0))⟩,
       ⟨none, some 5, .asg (.t 30)⟩])
    (.ret))
    (.seq (.region [⟨none, some 32, .mov (.t 6)⟩,
       ⟨none, some 33, .bin .gtr (.t 32) (.c (.int .i64 4096))⟩,
       ⟨none, some 31, .asg (.t 33)⟩])
    (.cond (.t 31) (.seq (.region [⟨none, some 2, .asg (.c (.int .u8 0))⟩,
        ⟨none, some 3, .asg (.c (.lit (.slice none 0 0)))⟩,
        ⟨none, some 4, .asg (.c (.int .i64 0))⟩,
        ⟨none, some 5, .asg (.c (.int .i64 4))⟩])
     (.ret))
     (.seq (.region [⟨none, some 35, .mov (.t 0)⟩,
        ⟨none, some 36, .len false (.t 35)⟩,
        ⟨none, some 37, .mov (.t 7)⟩,
        ⟨none, some 38, .bin .sub (.t 36) (.t 37)⟩,
        ⟨none, some 39, .mov (.t 6)⟩,
        ⟨none, some 40, .mov (.t 2)⟩,
        ⟨none, some 41, .call 53 [(.t 40)]⟩,
        ⟨none, some 42, .bin .mul (.t 39) (.t 41)⟩,
        ⟨none, some 43, .bin .lss (.t 38) (.t 42)⟩,
        ⟨none, some 34, .asg (.t 43)⟩])
     (.cond (.t 34) (.seq (.region [⟨none, some 2, .asg (.c (.int .u8 0))⟩,
         ⟨none, some 3, .asg (.c (.lit (.slice none 0 0)))⟩,
         ⟨none, some 4, .asg (.c (.int .i64 0))⟩,
         ⟨none, some 5, .asg (.c (.int .i64 7))⟩])
      (.ret))
      (.skip))))))))
 (.seq (.region [⟨none, some 44, .mov (.t 0)⟩,
    ⟨none, some 45, .mov (.t 7)⟩,
    ⟨none, some 46, .slc (.t 44) (some (.t 45)) none none 1⟩,
    ⟨none, some 47, .call 37 [(.t 46)]⟩,
    ⟨none, some 8, .asg (.t 47)⟩])
 (.seq (.seq (.region [⟨none, some 48, .mov (.t 6)⟩,
     ⟨none, some 49, .mov (.c (.int .i64 0))⟩])
  (.block 1 (.loop (.seq (.region [⟨none, some 50, .bin .lss (.t 49) (.t 48)⟩])
    (.seq (.cond (.t 50) (.skip)
      (.exit 1))
    (.seq (.block 2 (.region [⟨none, some 51, .mov (.t 3)⟩,
        ⟨none, some 52, .mov (.t 8)⟩,
        ⟨none, some 53, .mov (.t 2)⟩,
        ⟨none, some 54, .call 53 [(.t 53)]⟩,
        ⟨none, some 55, .callv (.t 52) [(.t 54)]⟩,
        ⟨none, some 56, .bslice 1 [.int .u64 0] [(0, 1, (.t 55))]⟩,
        ⟨none, some 57, .app (.t 51) (.t 56) 1 8⟩,
        ⟨none, some 3, .asg (.t 57)⟩]))
    (.region [⟨none, some 58, .bin .add (.t 49) (.c (.int .i64 1))⟩,
      ⟨none, some 49, .mov (.t 58)⟩])))))))
 (.seq (.seq (.region [⟨none, some 59, .mov (.t 2)⟩,
     ⟨none, some 60, .mov (.t 3)⟩,
     ⟨none, some 61, .call 52 [(.t 59), (.t 60)]⟩,
     ⟨none, some 62, .not (.t 61)⟩])
  (.cond (.t 62) (.seq (.region [⟨none, some 2, .asg (.c (.int .u8 0))⟩,
      ⟨none, some 3, .asg (.c (.lit (.slice none 0 0)))⟩,
      ⟨none, some 4, .asg (.c (.int .i64 0))⟩,
      ⟨none, some 5, .asg (.c (.int .i64 8))⟩])
   (.ret))
   (.skip)))
 (.seq (.region [⟨none, some 63, .mov (.t 2)⟩,
    ⟨none, some 64, .mov (.t 3)⟩,
    ⟨none, some 65, .mov (.t 7)⟩,
    ⟨none, some 66, .mov (.t 6)⟩,
    ⟨none, some 67, .mov (.t 2)⟩,
    ⟨none, some 68, .call 53 [(.t 67)]⟩,
    ⟨none, some 69, .bin .mul (.t 66) (.t 68)⟩,
    ⟨none, some 70, .bin .add (.t 65) (.t 69)⟩,
    ⟨none, some 2, .asg (.t 63)⟩,
    ⟨none, some 3, .asg (.t 64)⟩,
    ⟨none, some 4, .asg (.t 70)⟩,
    ⟨none, some 5, .asg (.c (.int .i64 0))⟩])
 (.ret)))))))))))
abbrev wire_ReadList.D0 : List Nat := [3, 49, 50, 51, 52, 53, 54, 55, 56, 57, 58]
abbrev wire_ReadList.K0 : List Nat := [2, 3, 4, 5, 27, 28, 29, 30, 31, 32, 33, 34, 35, 36, 37, 38, 39, 40, 41, 42, 43]
abbrev wire_ReadList.K1 : List Nat := [3, 49, 50, 51, 52, 53, 54, 55, 56, 57, 58]
abbrev wire_ReadList.K2 : List Nat := [3, 51, 52, 53, 54, 55, 56, 57]
theorem wire_ReadList.k : chkFn Go.Proofs.Try.prog 45 71 [.tmp 2, .tmp 3, .tmp 4, .tmp 5] wire_ReadList.c = true := by kernel_rfl

/-- conclave/wire.Unseal: function 23; parameters: []uint8; results: []uint8, int, api.Errno -/
def wire_Unseal.c : ACode :=
 .seq (.region [⟨none, some 2, .asg (.c (.lit (.slice none 0 0)))⟩,
    ⟨none, some 3, .asg (.c (.int .i64 0))⟩,
    ⟨none, some 4, .asg (.c (.int .i64 0))⟩])
 (.seq (.region [⟨none, some 9, .mov (.t 0)⟩,
    ⟨none, some 10, .call 36 [(.t 9)]⟩,
    ⟨none, some 8, .mov (.t 10)⟩,
    ⟨none, some 11, .ext (.t 8) 0⟩,
    ⟨none, some 12, .ext (.t 8) 1⟩,
    ⟨none, some 13, .ext (.t 8) 2⟩,
    ⟨none, some 5, .asg (.t 11)⟩,
    ⟨none, some 6, .asg (.t 12)⟩,
    ⟨none, some 4, .asg (.t 13)⟩])
 (.seq (.block 0 (.seq (.region [⟨none, some 15, .mov (.t 4)⟩,
      ⟨none, some 16, .bin .neq (.t 15) (.c (.int .i64 0))⟩,
      ⟨none, some 14, .asg (.t 16)⟩])
   (.cond (.t 14) (.seq (.region [⟨none, some 17, .mov (.t 4)⟩,
       ⟨none, some 2, .asg (.c (.lit (.slice none 0 0)))⟩,
       ⟨none, some 3, .asg (.c (.int .i64 0))⟩,
       ⟨none, some 4, .asg (.t 17)⟩])
    (.ret))
    (.seq (.region [⟨none, some 19, .mov (.t 5)⟩,
       ⟨none, some 20, .bin .gtr (.t 19) (.c (.int .i64 1048576))⟩,
       ⟨none, some 18, .asg (.t 20)⟩])
    (.cond (.t 18) (.seq (.region [⟨none, some 2, .asg (.c (.lit (.slice none 0 0)))⟩,
        ⟨none, some 3, .asg (.c (.int .i64 0))⟩,
        ⟨none, some 4, .asg (.c (.int .i64 4))⟩])
     (.ret))
     (.seq (.region [⟨none, some 22, .mov (.t 0)⟩,
        ⟨none, some 23, .len false (.t 22)⟩,
        ⟨none, some 24, .mov (.t 6)⟩,
        ⟨none, some 25, .bin .sub (.t 23) (.t 24)⟩,
        ⟨none, some 26, .mov (.t 5)⟩,
        ⟨none, some 27, .bin .add (.t 26) (.c (.int .i64 8))⟩,
        ⟨none, some 28, .bin .lss (.t 25) (.t 27)⟩,
        ⟨none, some 21, .asg (.t 28)⟩])
     (.cond (.t 21) (.seq (.region [⟨none, some 2, .asg (.c (.lit (.slice none 0 0)))⟩,
         ⟨none, some 3, .asg (.c (.int .i64 0))⟩,
         ⟨none, some 4, .asg (.c (.int .i64 7))⟩])
      (.ret))
      (.skip))))))))
 (.seq (.region [⟨none, some 29, .mov (.t 6)⟩,
    ⟨none, some 30, .mov (.t 5)⟩,
    ⟨none, some 31, .bin .add (.t 29) (.t 30)⟩,
    ⟨none, some 7, .asg (.t 31)⟩])
 (.seq (.seq (.draw (.pure 0 (.pure 1 (.pure 2 (.pure 5 (.pure 6 (.pure 7 (.alt 3 (.alt 4 (.alt 8 (.pure 9 .nil) .stop) .stop) .stop))))))) [(3, 2), (4, 2), (8, 2), (8, 7)] [⟨none, some 32, .mov (.t 0)⟩,
     ⟨none, some 33, .mov (.t 7)⟩,
     ⟨none, some 34, .slc (.t 32) (some (.t 33)) none none 1⟩,
     ⟨none, some 35, .call 37 [(.t 34)]⟩,
     ⟨none, some 36, .callv (.t 35) [(.c (.int .i64 8))]⟩,
     ⟨none, some 37, .mov (.t 0)⟩,
     ⟨none, some 38, .mov (.t 7)⟩,
     ⟨none, some 39, .slc (.t 37) none (some (.t 38)) none 1⟩,
     ⟨none, some 40, .call 38 [(.t 39)]⟩,
     ⟨none, some 41, .bin .neq (.t 36) (.t 40)⟩])
  (.cond (.t 41) (.seq (.region [⟨none, some 2, .asg (.c (.lit (.slice none 0 0)))⟩,
      ⟨none, some 3, .asg (.c (.int .i64 0))⟩,
      ⟨none, some 4, .asg (.c (.int .i64 80))⟩])
   (.ret))
   (.skip)))
 (.seq (.region [⟨none, some 42, .mov (.t 0)⟩,
    ⟨none, some 43, .mov (.t 6)⟩,
    ⟨none, some 44, .mov (.t 7)⟩,
    ⟨none, some 45, .mov (.t 7)⟩,
    ⟨none, some 46, .slc (.t 42) (some (.t 43)) (some (.t 44)) (some (.t 45)) 1⟩,
    ⟨none, some 47, .app (.c (.lit (.slice none 0 0))) (.t 46) 1 1⟩,
    ⟨none, some 48, .mov (.t 7)⟩,
    ⟨none, some 49, .bin .add (.t 48) (.c (.int .i64 8))⟩,
    ⟨none, some 2, .asg (.t 47)⟩,
    ⟨none, some 3, .asg (.t 49)⟩,
    ⟨none, some 4, .asg (.c (.int .i64 0))⟩])
 (.ret))))))
abbrev wire_Unseal.K0 : List Nat := [2, 3, 4, 14, 15, 16, 17, 18, 19, 20, 21, 22, 23, 24, 25, 26, 27, 28]
theorem wire_Unseal.k : chkFn Go.Proofs.Try.prog 23 50 [.tmp 2, .tmp 3, .tmp 4] wire_Unseal.c = true := by kernel_rfl

/-- conclave/field.In: function 52; parameters: api.Field, []uint64; results: bool -/
def field_In.c : ACode :=
 .seq (.region [⟨none, some 4, .asg (.c (.bool false))⟩])
 (.seq (.region [⟨none, some 8, .mov (.t 0)⟩,
    ⟨none, some 9, .mov (.t 1)⟩,
    ⟨none, some 10, .call 54 [(.t 8), (.t 9)]⟩,
    ⟨none, some 7, .mov (.t 10)⟩,
    ⟨none, some 11, .ext (.t 7) 0⟩,
    ⟨none, some 12, .ext (.t 7) 1⟩,
    ⟨none, some 5, .alloc [.int .u64 0, .bool false]⟩,
    ⟨none, none, .st (.t 5) (.t 11) 2⟩,
    ⟨none, some 6, .asg (.t 12)⟩])
 (.seq (.region [⟨none, some 13, .mov (.t 6)⟩,
    ⟨none, some 14, .bin .eql (.t 13) (.c (.int .i64 0))⟩,
    ⟨none, some 4, .asg (.t 14)⟩])
 (.ret)))
theorem field_In.k : chkFn Go.Proofs.Try.prog 52 15 [.tmp 4] field_In.c = true := by kernel_rfl

/-- conclave/field.asked: function 54; parameters: api.Field, []uint64; results: field.reckoner, api.Errno -/
def field_asked.c : ACode :=
 .seq (.region [⟨none, some 4, .alloc [.int .u64 0, .bool false]⟩,
    ⟨none, some 5, .asg (.c (.int .i64 0))⟩])
 (.seq (.region [⟨none, some 9, .mov (.t 0)⟩,
    ⟨none, some 10, .call 55 [(.t 9)]⟩,
    ⟨none, some 8, .mov (.t 10)⟩,
    ⟨none, some 11, .ext (.t 8) 0⟩,
    ⟨none, some 12, .ext (.t 8) 1⟩,
    ⟨none, some 6, .alloc [.int .u64 0, .bool false]⟩,
    ⟨none, none, .st (.t 6) (.t 11) 2⟩,
    ⟨none, some 7, .asg (.t 12)⟩])
 (.seq (.seq (.region [⟨none, some 13, .mov (.t 7)⟩,
     ⟨none, some 14, .not (.t 13)⟩,
     ⟨none, some 15, .mov (.t 14)⟩,
     ⟨some (15, false), some 16, .ld (.t 6) (some 2)⟩,
     ⟨some (15, false), some 17, .mov (.t 1)⟩,
     ⟨some (15, false), some 18, .call 56 [(.t 16), (.t 17)]⟩,
     ⟨some (15, false), some 19, .not (.t 18)⟩,
     ⟨none, some 20, .pick (.t 15) (.c (.bool true)) (.t 19)⟩])
  (.cond (.t 20) (.seq (.region [⟨none, some 21, .build [.int .u64 0, .bool false] []⟩,
      ⟨none, none, .st (.t 4) (.t 21) 2⟩,
      ⟨none, some 5, .asg (.c (.int .i64 2))⟩])
   (.ret))
   (.skip)))
 (.seq (.region [⟨none, some 22, .ld (.t 6) (some 2)⟩,
    ⟨none, none, .st (.t 4) (.t 22) 2⟩,
    ⟨none, some 5, .asg (.c (.int .i64 0))⟩])
 (.ret))))
theorem field_asked.k : chkFn Go.Proofs.Try.prog 54 23 [.cell 4 (some 2), .tmp 5] field_asked.c = true := by kernel_rfl

/-- conclave/field.of: function 55; parameters: api.Field; results: field.reckoner, bool -/
def field_of.c : ACode :=
 .seq (.region [⟨none, some 2, .alloc [.int .u64 0, .bool false]⟩,
    ⟨none, some 3, .asg (.c (.bool false))⟩])
 (.seq (.seq (.region [⟨none, some 4, .mov (.t 0)⟩])
  (.block 0 (.seq (.region [⟨none, some 6, .bin .eql (.t 4) (.c (.int .u8 1))⟩,
      ⟨none, some 5, .asg (.t 6)⟩])
   (.cond (.t 5) (.seq (.region [⟨none, some 7, .build [.int .u64 0, .bool false] [(0, 1, (.c (.int .u64 2013265921)))]⟩,
       ⟨none, none, .st (.t 2) (.t 7) 2⟩,
       ⟨none, some 3, .asg (.c (.bool true))⟩])
    (.ret))
    (.seq (.region [⟨none, some 9, .bin .eql (.t 4) (.c (.int .u8 2))⟩,
       ⟨none, some 8, .asg (.t 9)⟩])
    (.cond (.t 8) (.seq (.region [⟨none, some 10, .build [.int .u64 0, .bool false] [(0, 1, (.c (.int .u64 18446744069414584321))), (1, 1, (.c (.bool true)))]⟩,
        ⟨none, none, .st (.t 2) (.t 10) 2⟩,
        ⟨none, some 3, .asg (.c (.bool true))⟩])
     (.ret))
     (.skip)))))))
 (.seq (.region [⟨none, some 11, .build [.int .u64 0, .bool false] []⟩,
    ⟨none, none, .st (.t 2) (.t 11) 2⟩,
    ⟨none, some 3, .asg (.c (.bool false))⟩])
 (.ret)))
abbrev field_of.K0 : List Nat := [3, 5, 6, 7, 8, 9, 10]
theorem field_of.k : chkFn Go.Proofs.Try.prog 55 12 [.cell 2 (some 2), .tmp 3] field_of.c = true := by kernel_rfl

/-- (conclave/field.reckoner).in: function 56; parameters: field.reckoner, []uint64; results: bool -/
def field_reckoner_in.c : ACode :=
 .seq (.region [⟨none, some 2, .box (.t 0)⟩,
    ⟨none, some 4, .asg (.c (.bool false))⟩])
 (.seq (.seq (.region [⟨none, some 7, .mov (.t 1)⟩,
     ⟨none, some 8, .len false (.t 7)⟩,
     ⟨none, some 9, .mov (.c (.int .i64 0))⟩])
  (.block 0 (.loop (.seq (.region [⟨none, some 10, .bin .lss (.t 9) (.t 8)⟩])
    (.seq (.cond (.t 10) (.skip)
      (.exit 0))
    (.seq (.block 1 (.seq (.region [⟨none, some 11, .idx (.t 7) (.t 9) 1⟩,
         ⟨none, some 12, .ld (.t 11) none⟩,
         ⟨none, some 6, .asg (.t 12)⟩])
      (.seq (.region [⟨none, some 13, .mov (.t 6)⟩,
         ⟨none, some 14, .fld (.t 2) 0⟩,
         ⟨none, some 15, .ld (.t 14) none⟩,
         ⟨none, some 16, .bin .geq (.t 13) (.t 15)⟩])
      (.cond (.t 16) (.seq (.region [⟨none, some 4, .asg (.c (.bool false))⟩])
       (.ret))
       (.skip)))))
    (.region [⟨none, some 17, .bin .add (.t 9) (.c (.int .i64 1))⟩,
      ⟨none, some 9, .mov (.t 17)⟩])))))))
 (.seq (.region [⟨none, some 4, .asg (.c (.bool true))⟩])
 (.ret)))
abbrev field_reckoner_in.D0 : List Nat := [4, 6, 9, 10, 11, 12, 13, 14, 15, 16, 17]
abbrev field_reckoner_in.K0 : List Nat := [4, 6, 9, 10, 11, 12, 13, 14, 15, 16, 17]
abbrev field_reckoner_in.K1 : List Nat := [4, 6, 11, 12, 13, 14, 15, 16]
theorem field_reckoner_in.k : chkFn Go.Proofs.Try.prog 56 18 [.tmp 4] field_reckoner_in.c = true := by kernel_rfl

end Go.Proofs.Ytilhkgfhhkkolaa.C
