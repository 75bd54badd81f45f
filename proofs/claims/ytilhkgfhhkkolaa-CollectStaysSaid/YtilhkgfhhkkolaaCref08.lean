import Derived.Test.YtilhkgfhhkkolaaAdef
import Derived.Test.YtilhkgfhhkkolaaProg
import Derived.KernelRfl
namespace Go.Proofs.Ytilhkgfhhkkolaa.C
open Go Go.RowKit Go.Proofs.Ytilhkgfhhkkolaa.AL

/-- conclave/conclaveref08.Wide: function 30; parameters: uint64, int; results: []uint8 -/
def ref08_Wide.c : ACode :=
 .seq (.region [⟨none, some 4, .asg (.c (.lit (.slice none 0 0)))⟩])
 (.seq (.region [⟨none, some 5, .asg (.c (.lit (.slice none 0 0)))⟩])
 (.seq (.seq (.region [⟨none, some 7, .mov (.t 1)⟩,
     ⟨none, some 8, .bin .sub (.t 7) (.c (.int .i64 1))⟩,
     ⟨none, some 6, .asg (.t 8)⟩])
  (.block 0 (.loop (.seq (.seq (.region [⟨none, some 9, .mov (.t 6)⟩,
        ⟨none, some 10, .bin .geq (.t 9) (.c (.int .i64 0))⟩])
     (.cond (.t 10) (.skip)
      (.exit 0)))
    (.seq (.block 1 (.region [⟨none, some 13, .mov (.t 5)⟩,
        ⟨none, some 14, .mov (.t 0)⟩,
        ⟨none, some 15, .mov (.t 6)⟩,
        ⟨none, some 16, .bin .mul (.c (.int .i64 8)) (.t 15)⟩,
        ⟨none, some 17, .conv .u64 (.t 16)⟩,
        ⟨none, some 18, .bin .shr (.t 14) (.t 17)⟩,
        ⟨none, some 19, .conv .u8 (.t 18)⟩,
        ⟨none, some 20, .bslice 1 [.int .u8 0] [(0, 1, (.t 19))]⟩,
        ⟨none, some 21, .app (.t 13) (.t 20) 1 1⟩,
        ⟨none, some 5, .asg (.t 21)⟩]))
    (.region [⟨none, some 11, .mov (.t 6)⟩,
      ⟨none, some 12, .bin .sub (.t 11) (.c (.int .i64 1))⟩,
      ⟨none, some 6, .asg (.t 12)⟩]))))))
 (.seq (.region [⟨none, some 22, .mov (.t 5)⟩,
    ⟨none, some 4, .asg (.t 22)⟩])
 (.ret))))
abbrev ref08_Wide.D0 : List Nat := [5, 6, 9, 10, 11, 12, 13, 14, 15, 16, 17, 18, 19, 20, 21]
abbrev ref08_Wide.K0 : List Nat := [5, 6, 9, 10, 11, 12, 13, 14, 15, 16, 17, 18, 19, 20, 21]
abbrev ref08_Wide.K1 : List Nat := [5, 13, 14, 15, 16, 17, 18, 19, 20, 21]
theorem ref08_Wide.k : chkFn Go.Proofs.Try.prog 30 23 [.tmp 4] ref08_Wide.c = true := by kernel_rfl

/-- conclave/conclaveref08.List: function 31; parameters: api.Field, []uint64; results: []uint8, int -/
def ref08_List.c : ACode :=
 .seq (.region [⟨none, some 4, .asg (.c (.lit (.slice none 0 0)))⟩,
    ⟨none, some 5, .asg (.c (.int .i64 0))⟩])
 (.seq (.seq (.region [⟨none, some 8, .mov (.t 0)⟩,
     ⟨none, some 9, .mov (.t 1)⟩,
     ⟨none, some 10, .call 21 [(.t 8), (.t 9)]⟩,
     ⟨none, some 11, .not (.t 10)⟩])
  (.cond (.t 11) (.seq (.region [⟨none, some 4, .asg (.c (.lit (.slice none 0 0)))⟩,
      ⟨none, some 5, .asg (.c (.int .i64 2))⟩])
   (.ret))
   (.skip)))
 (.seq (.seq (.region [⟨none, some 12, .mov (.t 1)⟩,
     ⟨none, some 13, .len false (.t 12)⟩,
     ⟨none, some 14, .bin .gtr (.t 13) (.c (.int .i64 4096))⟩])
  (.cond (.t 14) (.seq (.region [⟨none, some 4, .asg (.c (.lit (.slice none 0 0)))⟩,
      ⟨none, some 5, .asg (.c (.int .i64 4))⟩])
   (.ret))
   (.skip)))
 (.seq (.region [⟨none, some 15, .mov (.t 0)⟩,
    ⟨none, some 16, .bslice 1 [.int .u8 0] [(0, 1, (.t 15))]⟩,
    ⟨none, some 17, .mov (.t 1)⟩,
    ⟨none, some 18, .len false (.t 17)⟩,
    ⟨none, some 19, .conv .u64 (.t 18)⟩,
    ⟨none, some 20, .call 30 [(.t 19), (.c (.int .i64 4))]⟩,
    ⟨none, some 21, .app (.t 16) (.t 20) 1 1⟩,
    ⟨none, some 6, .asg (.t 21)⟩])
 (.seq (.seq (.region [⟨none, some 7, .asg (.c (.int .i64 0))⟩])
  (.block 0 (.loop (.seq (.seq (.region [⟨none, some 22, .mov (.t 7)⟩,
        ⟨none, some 23, .mov (.t 1)⟩,
        ⟨none, some 24, .len false (.t 23)⟩,
        ⟨none, some 25, .bin .lss (.t 22) (.t 24)⟩])
     (.cond (.t 25) (.skip)
      (.exit 0)))
    (.seq (.block 1 (.draw (.pure 0 (.pure 1 (.pure 2 (.pure 3 (.pure 4 (.pure 5 (.alt 6 (.alt 7 (.alt 8 (.alt 9 .nil .stop) .stop) .stop) .stop))))))) [(7, 4), (8, 4), (9, 4)] [⟨none, some 28, .mov (.t 6)⟩,
        ⟨none, some 29, .mov (.t 1)⟩,
        ⟨none, some 30, .mov (.t 7)⟩,
        ⟨none, some 31, .idx (.t 29) (.t 30) 1⟩,
        ⟨none, some 32, .ld (.t 31) none⟩,
        ⟨none, some 33, .mov (.t 0)⟩,
        ⟨none, some 34, .call 50 [(.t 33)]⟩,
        ⟨none, some 35, .call 30 [(.t 32), (.t 34)]⟩,
        ⟨none, some 36, .app (.t 28) (.t 35) 1 1⟩,
        ⟨none, some 6, .asg (.t 36)⟩]))
    (.region [⟨none, some 26, .mov (.t 7)⟩,
      ⟨none, some 27, .bin .add (.t 26) (.c (.int .i64 1))⟩,
      ⟨none, some 7, .asg (.t 27)⟩]))))))
 (.seq (.region [⟨none, some 37, .mov (.t 6)⟩,
    ⟨none, some 4, .asg (.t 37)⟩,
    ⟨none, some 5, .asg (.c (.int .i64 0))⟩])
 (.ret))))))
abbrev ref08_List.D0 : List Nat := [6, 7, 22, 23, 24, 25, 26, 27, 28, 29, 30, 31, 32, 33, 34, 35, 36]
abbrev ref08_List.K0 : List Nat := [6, 7, 22, 23, 24, 25, 26, 27, 28, 29, 30, 31, 32, 33, 34, 35, 36]
abbrev ref08_List.K1 : List Nat := [6, 28, 29, 30, 31, 32, 33, 34, 35, 36]
theorem ref08_List.k : chkFn Go.Proofs.Try.prog 31 38 [.tmp 4, .tmp 5] ref08_List.c = true := by kernel_rfl

/-- conclave/conclaveref08.width: function 50; parameters: api.Field; results: int -/
def ref08_width.c : ACode :=
 .seq (.region [⟨none, some 2, .asg (.c (.int .i64 0))⟩])
 (.seq (.region [⟨none, some 3, .mov (.t 0)⟩,
    ⟨none, some 4, .conv .i64 (.t 3)⟩,
    ⟨none, some 5, .bin .mul (.c (.int .i64 4)) (.t 4)⟩,
    ⟨none, some 2, .asg (.t 5)⟩])
 (.ret))
theorem ref08_width.k : chkFn Go.Proofs.Try.prog 50 6 [.tmp 2] ref08_width.c = true := by kernel_rfl

/-- conclave/conclaveref08.Seal: function 32; parameters: []uint8; results: []uint8, int -/
def ref08_Seal.c : ACode :=
 .seq (.region [⟨none, some 2, .asg (.c (.lit (.slice none 0 0)))⟩,
    ⟨none, some 3, .asg (.c (.int .i64 0))⟩])
 (.seq (.seq (.region [⟨none, some 5, .mov (.t 0)⟩,
     ⟨none, some 6, .len false (.t 5)⟩,
     ⟨none, some 7, .bin .gtr (.t 6) (.c (.int .i64 1048576))⟩])
  (.cond (.t 7) (.seq (.region [⟨none, some 2, .asg (.c (.lit (.slice none 0 0)))⟩,
      ⟨none, some 3, .asg (.c (.int .i64 4))⟩])
   (.ret))
   (.skip)))
 (.seq (.region [⟨none, some 8, .mov (.t 0)⟩,
    ⟨none, some 9, .len false (.t 8)⟩,
    ⟨none, some 10, .conv .u64 (.t 9)⟩,
    ⟨none, some 11, .call 30 [(.t 10), (.c (.int .i64 4))]⟩,
    ⟨none, some 12, .mov (.t 0)⟩,
    ⟨none, some 13, .app (.t 11) (.t 12) 1 1⟩,
    ⟨none, some 4, .asg (.t 13)⟩])
 (.seq (.region [⟨none, some 14, .mov (.t 4)⟩,
    ⟨none, some 15, .mov (.t 4)⟩,
    ⟨none, some 16, .call 48 [(.t 15)]⟩,
    ⟨none, some 17, .call 30 [(.t 16), (.c (.int .i64 8))]⟩,
    ⟨none, some 18, .app (.t 14) (.t 17) 1 1⟩,
    ⟨none, some 2, .asg (.t 18)⟩,
    ⟨none, some 3, .asg (.c (.int .i64 0))⟩])
 (.ret))))
theorem ref08_Seal.k : chkFn Go.Proofs.Try.prog 32 19 [.tmp 2, .tmp 3] ref08_Seal.c = true := by kernel_rfl

/-- conclave/conclaveref08.Sum: function 48; parameters: []uint8; results: uint64 -/
def ref08_Sum.c : ACode :=
 .seq (.region [⟨none, some 2, .asg (.c (.int .u64 0))⟩])
 (.seq (.region [⟨none, some 3, .asg (.c (.int .u64 14695981039346656037))⟩])
 (.seq (.seq (.region [⟨none, some 4, .asg (.c (.int .i64 0))⟩])
  (.block 0 (.loop (.seq (.seq (.region [⟨none, some 5, .mov (.t 4)⟩,
        ⟨none, some 6, .mov (.t 0)⟩,
        ⟨none, some 7, .len false (.t 6)⟩,
        ⟨none, some 8, .bin .lss (.t 5) (.t 7)⟩])
     (.cond (.t 8) (.skip)
      (.exit 0)))
    (.seq (.block 1 (.region [⟨none, some 11, .mov (.t 3)⟩,
        ⟨none, some 12, .mov (.t 0)⟩,
        ⟨none, some 13, .mov (.t 4)⟩,
        ⟨none, some 14, .idx (.t 12) (.t 13) 1⟩,
        ⟨none, some 15, .ld (.t 14) none⟩,
        ⟨none, some 16, .conv .u64 (.t 15)⟩,
        ⟨none, some 17, .bin .xor (.t 11) (.t 16)⟩,
        ⟨none, some 18, .bin .mul (.t 17) (.c (.int .u64 1099511628211))⟩,
        ⟨none, some 3, .asg (.t 18)⟩]))
    (.region [⟨none, some 9, .mov (.t 4)⟩,
      ⟨none, some 10, .bin .add (.t 9) (.c (.int .i64 1))⟩,
      ⟨none, some 4, .asg (.t 10)⟩]))))))
 (.seq (.region [⟨none, some 19, .mov (.t 3)⟩,
    ⟨none, some 2, .asg (.t 19)⟩])
 (.ret))))
abbrev ref08_Sum.D0 : List Nat := [3, 4, 5, 6, 7, 8, 9, 10, 11, 12, 13, 14, 15, 16, 17, 18]
abbrev ref08_Sum.K0 : List Nat := [3, 4, 5, 6, 7, 8, 9, 10, 11, 12, 13, 14, 15, 16, 17, 18]
abbrev ref08_Sum.K1 : List Nat := [3, 11, 12, 13, 14, 15, 16, 17, 18]
theorem ref08_Sum.k : chkFn Go.Proofs.Try.prog 48 20 [.tmp 2] ref08_Sum.c = true := by kernel_rfl

/-- conclave/conclaveref08.Unseal: function 25; parameters: []uint8; results: []uint8, int, int -/
def ref08_Unseal.c : ACode :=
 .seq (.region [⟨none, some 2, .asg (.c (.lit (.slice none 0 0)))⟩,
    ⟨none, some 3, .asg (.c (.int .i64 0))⟩,
    ⟨none, some 4, .asg (.c (.int .i64 0))⟩])
 (.seq (.region [⟨none, some 9, .mov (.t 0)⟩,
    ⟨none, some 10, .call 47 [(.t 9)]⟩,
    ⟨none, some 8, .mov (.t 10)⟩,
    ⟨none, some 11, .ext (.t 8) 0⟩,
    ⟨none, some 12, .ext (.t 8) 1⟩,
    ⟨none, some 13, .ext (.t 8) 2⟩,
    ⟨none, some 5, .asg (.t 11)⟩,
    ⟨none, some 6, .asg (.t 12)⟩,
    ⟨none, some 7, .asg (.t 13)⟩])
 (.seq (.seq (.region [⟨none, some 14, .mov (.t 7)⟩,
     ⟨none, some 15, .bin .eql (.t 14) (.c (.int .i64 0))⟩,
     ⟨none, some 16, .mov (.t 15)⟩,
     ⟨some (16, true), some 17, .mov (.t 5)⟩,
     ⟨some (16, true), some 18, .bin .gtr (.t 17) (.c (.int .i64 1048576))⟩,
     ⟨none, some 19, .pick (.t 16) (.t 18) (.c (.bool false))⟩])
  (.cond (.t 19) (.region [⟨none, some 7, .asg (.c (.int .i64 4))⟩])
   (.skip)))
 (.seq (.seq (.region [⟨none, some 20, .mov (.t 7)⟩,
     ⟨none, some 21, .bin .eql (.t 20) (.c (.int .i64 0))⟩,
     ⟨none, some 22, .mov (.t 21)⟩,
     ⟨some (22, true), some 23, .mov (.t 0)⟩,
     ⟨some (22, true), some 24, .len false (.t 23)⟩,
     ⟨some (22, true), some 25, .mov (.t 5)⟩,
     ⟨some (22, true), some 26, .bin .add (.c (.int .i64 4)) (.t 25)⟩,
     ⟨some (22, true), some 27, .bin .add (.t 26) (.c (.int .i64 8))⟩,
     ⟨some (22, true), some 28, .bin .lss (.t 24) (.t 27)⟩,
     ⟨none, some 29, .pick (.t 22) (.t 28) (.c (.bool false))⟩])
  (.cond (.t 29) (.region [⟨none, some 7, .asg (.c (.int .i64 7))⟩])
   (.skip)))
 (.seq (.seq (.draw (.pure 0 (.pure 1 (.pure 2 (.pure 3 (.pure 4 (.pure 5 (.pure 6 (.pure 7 (.pure 8 (.pure 10 (.pure 11 (.pure 12 (.pure 13 (.alt 9 (.alt 14 (.pure 15 (.pure 16 .nil)) .stop) .stop)))))))))))))) [(9, 8), (14, 8), (14, 13)] [⟨none, some 30, .mov (.t 7)⟩,
     ⟨none, some 31, .bin .eql (.t 30) (.c (.int .i64 0))⟩,
     ⟨none, some 32, .mov (.t 31)⟩,
     ⟨some (32, true), some 33, .mov (.t 0)⟩,
     ⟨some (32, true), some 34, .mov (.t 5)⟩,
     ⟨some (32, true), some 35, .bin .add (.c (.int .i64 4)) (.t 34)⟩,
     ⟨some (32, true), some 36, .mov (.t 5)⟩,
     ⟨some (32, true), some 37, .bin .add (.c (.int .i64 12)) (.t 36)⟩,
     ⟨some (32, true), some 38, .slc (.t 33) (some (.t 35)) (some (.t 37)) none 1⟩,
     ⟨some (32, true), some 39, .call 27 [(.t 38)]⟩,
     ⟨some (32, true), some 40, .mov (.t 0)⟩,
     ⟨some (32, true), some 41, .mov (.t 5)⟩,
     ⟨some (32, true), some 42, .bin .add (.c (.int .i64 4)) (.t 41)⟩,
     ⟨some (32, true), some 43, .slc (.t 40) none (some (.t 42)) none 1⟩,
     ⟨some (32, true), some 44, .call 48 [(.t 43)]⟩,
     ⟨some (32, true), some 45, .bin .neq (.t 39) (.t 44)⟩,
     ⟨none, some 46, .pick (.t 32) (.t 45) (.c (.bool false))⟩])
  (.cond (.t 46) (.region [⟨none, some 7, .asg (.c (.int .i64 80))⟩])
   (.skip)))
 (.seq (.seq (.region [⟨none, some 47, .mov (.t 7)⟩,
     ⟨none, some 48, .bin .neq (.t 47) (.c (.int .i64 0))⟩])
  (.cond (.t 48) (.seq (.region [⟨none, some 49, .mov (.t 7)⟩,
      ⟨none, some 2, .asg (.c (.lit (.slice none 0 0)))⟩,
      ⟨none, some 3, .asg (.c (.int .i64 0))⟩,
      ⟨none, some 4, .asg (.t 49)⟩])
   (.ret))
   (.skip)))
 (.seq (.region [⟨none, some 50, .mov (.t 0)⟩,
    ⟨none, some 51, .mov (.t 5)⟩,
    ⟨none, some 52, .bin .add (.c (.int .i64 4)) (.t 51)⟩,
    ⟨none, some 53, .slc (.t 50) (some (.c (.int .i64 4))) (some (.t 52)) none 1⟩,
    ⟨none, some 54, .call 49 [(.t 53)]⟩,
    ⟨none, some 55, .mov (.t 5)⟩,
    ⟨none, some 56, .bin .add (.c (.int .i64 12)) (.t 55)⟩,
    ⟨none, some 2, .asg (.t 54)⟩,
    ⟨none, some 3, .asg (.t 56)⟩,
    ⟨none, some 4, .asg (.c (.int .i64 0))⟩])
 (.ret)))))))
theorem ref08_Unseal.k : chkFn Go.Proofs.Try.prog 25 57 [.tmp 2, .tmp 3, .tmp 4] ref08_Unseal.c = true := by kernel_rfl

/-- conclave/conclaveref08.Taken: function 27; parameters: []uint8; results: uint64 -/
def ref08_Taken.c : ACode :=
 .seq (.region [⟨none, some 2, .asg (.c (.int .u64 0))⟩])
 (.seq (.region [⟨none, some 3, .asg (.c (.int .u64 0))⟩])
 (.seq (.seq (.region [⟨none, some 4, .asg (.c (.int .i64 0))⟩])
  (.block 0 (.loop (.seq (.seq (.region [⟨none, some 5, .mov (.t 4)⟩,
        ⟨none, some 6, .mov (.t 0)⟩,
        ⟨none, some 7, .len false (.t 6)⟩,
        ⟨none, some 8, .bin .lss (.t 5) (.t 7)⟩])
     (.cond (.t 8) (.skip)
      (.exit 0)))
    (.seq (.block 1 (.region [⟨none, some 11, .mov (.t 3)⟩,
        ⟨none, some 12, .bin .mul (.t 11) (.c (.int .u64 256))⟩,
        ⟨none, some 13, .mov (.t 0)⟩,
        ⟨none, some 14, .mov (.t 4)⟩,
        ⟨none, some 15, .idx (.t 13) (.t 14) 1⟩,
        ⟨none, some 16, .ld (.t 15) none⟩,
        ⟨none, some 17, .conv .u64 (.t 16)⟩,
        ⟨none, some 18, .bin .add (.t 12) (.t 17)⟩,
        ⟨none, some 3, .asg (.t 18)⟩]))
    (.region [⟨none, some 9, .mov (.t 4)⟩,
      ⟨none, some 10, .bin .add (.t 9) (.c (.int .i64 1))⟩,
      ⟨none, some 4, .asg (.t 10)⟩]))))))
 (.seq (.region [⟨none, some 19, .mov (.t 3)⟩,
    ⟨none, some 2, .asg (.t 19)⟩])
 (.ret))))
abbrev ref08_Taken.D0 : List Nat := [3, 4, 5, 6, 7, 8, 9, 10, 11, 12, 13, 14, 15, 16, 17, 18]
abbrev ref08_Taken.K0 : List Nat := [3, 4, 5, 6, 7, 8, 9, 10, 11, 12, 13, 14, 15, 16, 17, 18]
abbrev ref08_Taken.K1 : List Nat := [3, 11, 12, 13, 14, 15, 16, 17, 18]
theorem ref08_Taken.k : chkFn Go.Proofs.Try.prog 27 20 [.tmp 2] ref08_Taken.c = true := by kernel_rfl

/-- conclave/conclaveref08.ReadCount: function 47; parameters: []uint8; results: int, int, int -/
def ref08_ReadCount.c : ACode :=
 .seq (.region [⟨none, some 2, .asg (.c (.int .i64 0))⟩,
    ⟨none, some 3, .asg (.c (.int .i64 0))⟩,
    ⟨none, some 4, .asg (.c (.int .i64 0))⟩])
 (.seq (.seq (.region [⟨none, some 6, .mov (.t 0)⟩,
     ⟨none, some 7, .len false (.t 6)⟩,
     ⟨none, some 8, .bin .lss (.t 7) (.c (.int .i64 4))⟩])
  (.cond (.t 8) (.seq (.region [⟨none, some 2, .asg (.c (.int .i64 0))⟩,
      ⟨none, some 3, .asg (.c (.int .i64 0))⟩,
      ⟨none, some 4, .asg (.c (.int .i64 7))⟩])
   (.ret))
   (.skip)))
 (.seq (.region [⟨none, some 9, .mov (.t 0)⟩,
    ⟨none, some 10, .slc (.t 9) none (some (.c (.int .i64 4))) none 1⟩,
    ⟨none, some 11, .call 27 [(.t 10)]⟩,
    ⟨none, some 5, .asg (.t 11)⟩])
 (.seq (.seq (.region [⟨none, some 12, .mov (.t 5)⟩,
     ⟨none, some 13, .bin .gtr (.t 12) (.c (.int .u64 2147483647))⟩])
  (.cond (.t 13) (.seq (.region [⟨none, some 2, .asg (.c (.int .i64 0))⟩,
      ⟨none, some 3, .asg (.c (.int .i64 0))⟩,
      ⟨none, some 4, .asg (.c (.int .i64 8))⟩])
   (.ret))
   (.skip)))
 (.seq (.region [⟨none, some 14, .mov (.t 5)⟩,
    ⟨none, some 15, .conv .i64 (.t 14)⟩,
    ⟨none, some 2, .asg (.t 15)⟩,
    ⟨none, some 3, .asg (.c (.int .i64 4))⟩,
    ⟨none, some 4, .asg (.c (.int .i64 0))⟩])
 (.ret)))))
theorem ref08_ReadCount.k : chkFn Go.Proofs.Try.prog 47 16 [.tmp 2, .tmp 3, .tmp 4] ref08_ReadCount.c = true := by kernel_rfl

/-- conclave/conclaveref08.Bytes: function 49; parameters: []uint8; results: []uint8 -/
def ref08_Bytes.c : ACode :=
 .seq (.region [⟨none, some 2, .asg (.c (.lit (.slice none 0 0)))⟩])
 (.seq (.region [⟨none, some 3, .bslice 0 [.int .u8 0] []⟩,
    ⟨none, some 4, .mov (.t 0)⟩,
    ⟨none, some 5, .app (.t 3) (.t 4) 1 1⟩,
    ⟨none, some 2, .asg (.t 5)⟩])
 (.ret))
theorem ref08_Bytes.k : chkFn Go.Proofs.Try.prog 49 6 [.tmp 2] ref08_Bytes.c = true := by kernel_rfl

/-- conclave/conclaveref08.ReadList: function 26; parameters: []uint8; results: api.Field, []uint64, int, int -/
def ref08_ReadList.c : ACode :=
 .seq (.region [⟨none, some 2, .asg (.c (.int .u8 0))⟩,
    ⟨none, some 3, .asg (.c (.lit (.slice none 0 0)))⟩,
    ⟨none, some 4, .asg (.c (.int .i64 0))⟩,
    ⟨none, some 5, .asg (.c (.int .i64 0))⟩])
 (.seq (.seq (.region [⟨none, some 13, .mov (.t 0)⟩,
     ⟨none, some 14, .len false (.t 13)⟩,
     ⟨none, some 15, .bin .eql (.t 14) (.c (.int .i64 0))⟩])
  (.cond (.t 15) (.seq (.region [⟨none, some 2, .asg (.c (.int .u8 0))⟩,
      ⟨none, some 3, .asg (.c (.lit (.slice none 0 0)))⟩,
      ⟨none, some 4, .asg (.c (.int .i64 0))⟩,
      ⟨none, some 5, .asg (.c (.int .i64 7))⟩])
   (.ret))
   (.skip)))
 (.seq (.region [⟨none, some 16, .mov (.t 0)⟩,
    ⟨none, some 17, .idx (.t 16) (.c (.int .i64 0)) 1⟩,
    ⟨none, some 18, .ld (.t 17) none⟩,
    ⟨none, some 6, .asg (.t 18)⟩])
 (.seq (.seq (.region [⟨none, some 19, .mov (.t 6)⟩,
     ⟨none, some 20, .bin .neq (.t 19) (.c (.int .u8 1))⟩,
     ⟨none, some 21, .mov (.t 20)⟩,
     ⟨some (21, true), some 22, .mov (.t 6)⟩,
     ⟨some (21, true), some 23, .bin .neq (.t 22) (.c (.int .u8 2))⟩,
     ⟨none, some 24, .pick (.t 21) (.t 23) (.c (.bool false))⟩])
  (.cond (.t 24) (.seq (.region [⟨none, some 2, .asg (.c (.int .u8 0))⟩,
      ⟨none, some 3, .asg (.c (.lit (.slice none 0 0)))⟩,
      ⟨none, some 4, .asg (.c (.int .i64 0))⟩,
      ⟨none, some 5, .asg (.c (.int .i64 8))⟩])
   (.ret))
   (.skip)))
 (.seq (.region [⟨none, some 26, .mov (.t 0)⟩,
    ⟨none, some 27, .slc (.t 26) (some (.c (.int .i64 1))) none none 1⟩,
    ⟨none, some 28, .call 47 [(.t 27)]⟩,
    ⟨none, some 25, .mov (.t 28)⟩,
    ⟨none, some 29, .ext (.t 25) 0⟩,
    ⟨none, some 30, .ext (.t 25) 1⟩,
    ⟨none, some 31, .ext (.t 25) 2⟩,
    ⟨none, some 7, .asg (.t 29)⟩,
    ⟨none, some 8, .asg (.t 30)⟩,
    ⟨none, some 9, .asg (.t 31)⟩])
 (.seq (.seq (.region [⟨none, some 32, .mov (.t 9)⟩,
     ⟨none, some 33, .bin .eql (.t 32) (.c (.int .i64 0))⟩,
     ⟨none, some 34, .mov (.t 33)⟩,
     ⟨some (34, true), some 35, .mov (.t 7)⟩,
     ⟨some (34, true), some 36, .bin .gtr (.t 35) (.c (.int .i64 4096))⟩,
     ⟨none, some 37, .pick (.t 34) (.t 36) (.c (.bool false))⟩])
  (.cond (.t 37) (.region [⟨none, some 9, .asg (.c (.int .i64 4))⟩])
   (.skip)))
 (.seq (.region [⟨none, some 38, .mov (.t 8)⟩,
    ⟨none, some 39, .bin .add (.t 38) (.c (.int .i64 1))⟩,
    ⟨none, some 8, .asg (.t 39)⟩])
 (.seq (.seq (.region [⟨none, some 40, .mov (.t 9)⟩,
     ⟨none, some 41, .bin .eql (.t 40) (.c (.int .i64 0))⟩,
     ⟨none, some 42, .mov (.t 41)⟩,
     ⟨some (42, true), some 43, .mov (.t 0)⟩,
     ⟨some (42, true), some 44, .len false (.t 43)⟩,
     ⟨some (42, true), some 45, .mov (.t 8)⟩,
     ⟨some (42, true), some 46, .bin .sub (.t 44) (.t 45)⟩,
     ⟨some (42, true), some 47, .mov (.t 7)⟩,
     ⟨some (42, true), some 48, .mov (.t 6)⟩,
     ⟨some (42, true), some 49, .call 50 [(.t 48)]⟩,
     ⟨some (42, true), some 50, .bin .mul (.t 47) (.t 49)⟩,
     ⟨some (42, true), some 51, .bin .lss (.t 46) (.t 50)⟩,
     ⟨none, some 52, .pick (.t 42) (.t 51) (.c (.bool false))⟩])
  (.cond (.t 52) (.region [⟨none, some 9, .asg (.c (.int .i64 7))⟩])
   (.skip)))
 (.seq (.region [⟨none, some 10, .asg (.c (.lit (.slice none 0 0)))⟩])
 (.seq (.seq (.region [⟨none, some 11, .asg (.c (.int .i64 0))⟩])
  (.block 0 (.loop (.seq (.seq (.region [⟨none, some 53, .mov (.t 11)⟩,
        ⟨none, some 54, .mov (.t 7)⟩,
        ⟨none, some 55, .bin .lss (.t 53) (.t 54)⟩,
        ⟨none, some 56, .mov (.t 55)⟩,
        ⟨some (56, true), some 57, .mov (.t 9)⟩,
        ⟨some (56, true), some 58, .bin .eql (.t 57) (.c (.int .i64 0))⟩,
        ⟨none, some 59, .pick (.t 56) (.t 58) (.c (.bool false))⟩])
     (.cond (.t 59) (.skip)
      (.exit 0)))
    (.seq (.block 1 (.seq (.region [⟨none, some 62, .mov (.t 0)⟩,
         ⟨none, some 63, .mov (.t 8)⟩,
         ⟨none, some 64, .mov (.t 8)⟩,
         ⟨none, some 65, .mov (.t 6)⟩,
         ⟨none, some 66, .call 50 [(.t 65)]⟩,
         ⟨none, some 67, .bin .add (.t 64) (.t 66)⟩,
         ⟨none, some 68, .slc (.t 62) (some (.t 63)) (some (.t 67)) none 1⟩,
         ⟨none, some 69, .call 27 [(.t 68)]⟩,
         ⟨none, some 12, .asg (.t 69)⟩])
      (.seq (.seq (.region [⟨none, some 70, .mov (.t 6)⟩,
          ⟨none, some 71, .mov (.t 12)⟩,
          ⟨none, some 72, .bslice 1 [.int .u64 0] [(0, 1, (.t 71))]⟩,
          ⟨none, some 73, .call 21 [(.t 70), (.t 72)]⟩,
          ⟨none, some 74, .not (.t 73)⟩])
       (.cond (.t 74) (.region [⟨none, some 9, .asg (.c (.int .i64 8))⟩])
        (.skip)))
      (.seq (.region [⟨none, some 75, .mov (.t 10)⟩,
         ⟨none, some 76, .mov (.t 12)⟩,
         ⟨none, some 77, .bslice 1 [.int .u64 0] [(0, 1, (.t 76))]⟩,
         ⟨none, some 78, .app (.t 75) (.t 77) 1 8⟩,
         ⟨none, some 10, .asg (.t 78)⟩])
      (.region [⟨none, some 79, .mov (.t 8)⟩,
        ⟨none, some 80, .mov (.t 6)⟩,
        ⟨none, some 81, .call 50 [(.t 80)]⟩,
        ⟨none, some 82, .bin .add (.t 79) (.t 81)⟩,
        ⟨none, some 8, .asg (.t 82)⟩])))))
    (.region [⟨none, some 60, .mov (.t 11)⟩,
      ⟨none, some 61, .bin .add (.t 60) (.c (.int .i64 1))⟩,
      ⟨none, some 11, .asg (.t 61)⟩]))))))
 (.seq (.seq (.region [⟨none, some 83, .mov (.t 9)⟩,
     ⟨none, some 84, .bin .neq (.t 83) (.c (.int .i64 0))⟩])
  (.cond (.t 84) (.seq (.region [⟨none, some 85, .mov (.t 9)⟩,
      ⟨none, some 2, .asg (.c (.int .u8 0))⟩,
      ⟨none, some 3, .asg (.c (.lit (.slice none 0 0)))⟩,
      ⟨none, some 4, .asg (.c (.int .i64 0))⟩,
      ⟨none, some 5, .asg (.t 85)⟩])
   (.ret))
   (.skip)))
 (.seq (.region [⟨none, some 86, .mov (.t 6)⟩,
    ⟨none, some 87, .mov (.t 10)⟩,
    ⟨none, some 88, .mov (.t 8)⟩,
    ⟨none, some 2, .asg (.t 86)⟩,
    ⟨none, some 3, .asg (.t 87)⟩,
    ⟨none, some 4, .asg (.t 88)⟩,
    ⟨none, some 5, .asg (.c (.int .i64 0))⟩])
 (.ret))))))))))))
abbrev ref08_ReadList.D0 : List Nat := [8, 9, 10, 11, 12, 53, 54, 55, 56, 57, 58, 59, 60, 61, 62, 63, 64, 65, 66, 67, 68, 69, 70, 71, 72, 73, 74, 75, 76, 77, 78, 79, 80, 81, 82]
abbrev ref08_ReadList.K0 : List Nat := [8, 9, 10, 11, 12, 53, 54, 55, 56, 57, 58, 59, 60, 61, 62, 63, 64, 65, 66, 67, 68, 69, 70, 71, 72, 73, 74, 75, 76, 77, 78, 79, 80, 81, 82]
abbrev ref08_ReadList.K1 : List Nat := [8, 9, 10, 12, 62, 63, 64, 65, 66, 67, 68, 69, 70, 71, 72, 73, 74, 75, 76, 77, 78, 79, 80, 81, 82]
theorem ref08_ReadList.k : chkFn Go.Proofs.Try.prog 26 89 [.tmp 2, .tmp 3, .tmp 4, .tmp 5] ref08_ReadList.c = true := by kernel_rfl

/-- conclave/conclaveref08.Same: function 28; parameters: []uint8, []uint8; results: bool -/
def ref08_Same.c : ACode :=
 .seq (.region [⟨none, some 4, .asg (.c (.bool false))⟩])
 (.seq (.region [⟨none, some 5, .mov (.t 0)⟩,
    ⟨none, some 6, .b2s (.t 5)⟩,
    ⟨none, some 7, .mov (.t 1)⟩,
    ⟨none, some 8, .b2s (.t 7)⟩,
    ⟨none, some 9, .bin .eql (.t 6) (.t 8)⟩,
    ⟨none, some 4, .asg (.t 9)⟩])
 (.ret))
theorem ref08_Same.k : chkFn Go.Proofs.Try.prog 28 10 [.tmp 4] ref08_Same.c = true := by kernel_rfl

/-- conclave/conclaveref01.In: function 21; parameters: api.Field, []uint64; results: bool -/
def ref01_In.c : ACode :=
 .seq (.region [⟨none, some 4, .asg (.c (.bool false))⟩])
 (.seq (.region [⟨none, some 7, .mov (.t 0)⟩,
    ⟨none, some 8, .call 34 [(.t 7)]⟩,
    ⟨none, some 5, .asg (.t 8)⟩])
 (.seq (.seq (.region [⟨none, some 6, .asg (.c (.int .i64 0))⟩])
  (.block 0 (.loop (.seq (.seq (.region [⟨none, some 9, .mov (.t 6)⟩,
        ⟨none, some 10, .mov (.t 1)⟩,
        ⟨none, some 11, .len false (.t 10)⟩,
        ⟨none, some 12, .bin .lss (.t 9) (.t 11)⟩])
     (.cond (.t 12) (.skip)
      (.exit 0)))
    (.seq (.block 1 (.seq (.region [⟨none, some 15, .mov (.t 1)⟩,
         ⟨none, some 16, .mov (.t 6)⟩,
         ⟨none, some 17, .idx (.t 15) (.t 16) 1⟩,
         ⟨none, some 18, .ld (.t 17) none⟩,
         ⟨none, some 19, .mov (.t 5)⟩,
         ⟨none, some 20, .bin .geq (.t 18) (.t 19)⟩])
      (.cond (.t 20) (.seq (.region [⟨none, some 4, .asg (.c (.bool false))⟩])
       (.ret))
       (.skip))))
    (.region [⟨none, some 13, .mov (.t 6)⟩,
      ⟨none, some 14, .bin .add (.t 13) (.c (.int .i64 1))⟩,
      ⟨none, some 6, .asg (.t 14)⟩]))))))
 (.seq (.region [⟨none, some 21, .mov (.t 5)⟩,
    ⟨none, some 22, .bin .neq (.t 21) (.c (.int .u64 0))⟩,
    ⟨none, some 4, .asg (.t 22)⟩])
 (.ret))))
abbrev ref01_In.D0 : List Nat := [4, 6, 9, 10, 11, 12, 13, 14, 15, 16, 17, 18, 19, 20]
abbrev ref01_In.K0 : List Nat := [4, 6, 9, 10, 11, 12, 13, 14, 15, 16, 17, 18, 19, 20]
abbrev ref01_In.K1 : List Nat := [4, 15, 16, 17, 18, 19, 20]
theorem ref01_In.k : chkFn Go.Proofs.Try.prog 21 23 [.tmp 4] ref01_In.c = true := by kernel_rfl

/-- conclave/conclaveref01.P: function 34; parameters: api.Field; results: uint64 -/
def ref01_P.c : ACode :=
 .seq (.region [⟨none, some 2, .asg (.c (.int .u64 0))⟩])
 (.seq (.seq (.region [⟨none, some 3, .mov (.t 0)⟩])
  (.block 0 (.seq (.region [⟨none, some 5, .bin .eql (.t 3) (.c (.int .u8 1))⟩,
      ⟨none, some 4, .asg (.t 5)⟩])
   (.cond (.t 4) (.seq (.region [⟨none, some 2, .asg (.c (.int .u64 2013265921))⟩])
    (.ret))
    (.seq (.region [⟨none, some 7, .bin .eql (.t 3) (.c (.int .u8 2))⟩,
       ⟨none, some 6, .asg (.t 7)⟩])
    (.cond (.t 6) (.seq (.region [⟨none, some 2, .asg (.c (.int .u64 18446744069414584321))⟩])
     (.ret))
     (.skip)))))))
 (.seq (.region [⟨none, some 2, .asg (.c (.int .u64 0))⟩])
 (.ret)))
abbrev ref01_P.K0 : List Nat := [2, 4, 5, 6, 7]
theorem ref01_P.k : chkFn Go.Proofs.Try.prog 34 8 [.tmp 2] ref01_P.c = true := by kernel_rfl

/-- conclave/conclaveref01.Same: function 7; parameters: []uint64, []uint64; results: bool -/
def ref01_Same.c : ACode :=
 .seq (.region [⟨none, some 4, .asg (.c (.bool false))⟩])
 (.seq (.seq (.region [⟨none, some 6, .mov (.t 0)⟩,
     ⟨none, some 7, .len false (.t 6)⟩,
     ⟨none, some 8, .mov (.t 1)⟩,
     ⟨none, some 9, .len false (.t 8)⟩,
     ⟨none, some 10, .bin .neq (.t 7) (.t 9)⟩])
  (.cond (.t 10) (.seq (.region [⟨none, some 4, .asg (.c (.bool false))⟩])
   (.ret))
   (.skip)))
 (.seq (.seq (.region [⟨none, some 5, .asg (.c (.int .i64 0))⟩])
  (.block 0 (.loop (.seq (.seq (.region [⟨none, some 11, .mov (.t 5)⟩,
        ⟨none, some 12, .mov (.t 0)⟩,
        ⟨none, some 13, .len false (.t 12)⟩,
        ⟨none, some 14, .bin .lss (.t 11) (.t 13)⟩])
     (.cond (.t 14) (.skip)
      (.exit 0)))
    (.seq (.block 1 (.seq (.draw (.pure 0 (.pure 1 (.pure 2 (.pure 3 (.pure 4 (.pure 5 (.pure 6 (.pure 7 (.pure 8 .nil))))))))) [] [⟨none, some 17, .mov (.t 0)⟩,
         ⟨none, some 18, .mov (.t 5)⟩,
         ⟨none, some 19, .idx (.t 17) (.t 18) 1⟩,
         ⟨none, some 20, .ld (.t 19) none⟩,
         ⟨none, some 21, .mov (.t 1)⟩,
         ⟨none, some 22, .mov (.t 5)⟩,
         ⟨none, some 23, .idx (.t 21) (.t 22) 1⟩,
         ⟨none, some 24, .ld (.t 23) none⟩,
         ⟨none, some 25, .bin .neq (.t 20) (.t 24)⟩])
      (.cond (.t 25) (.seq (.region [⟨none, some 4, .asg (.c (.bool false))⟩])
       (.ret))
       (.skip))))
    (.region [⟨none, some 15, .mov (.t 5)⟩,
      ⟨none, some 16, .bin .add (.t 15) (.c (.int .i64 1))⟩,
      ⟨none, some 5, .asg (.t 16)⟩]))))))
 (.seq (.region [⟨none, some 4, .asg (.c (.bool true))⟩])
 (.ret))))
abbrev ref01_Same.D0 : List Nat := [4, 5, 11, 12, 13, 14, 15, 16, 17, 18, 19, 20, 21, 22, 23, 24, 25]
abbrev ref01_Same.K0 : List Nat := [4, 5, 11, 12, 13, 14, 15, 16, 17, 18, 19, 20, 21, 22, 23, 24, 25]
abbrev ref01_Same.K1 : List Nat := [4, 17, 18, 19, 20, 21, 22, 23, 24, 25]
theorem ref01_Same.k : chkFn Go.Proofs.Try.prog 7 26 [.tmp 4] ref01_Same.c = true := by kernel_rfl

/-- conclave/conclaveref20.Read: function 16; parameters: []uint8; results: api.Msg, int -/
def ref20_Read.c : ACode :=
 .seq (.region [⟨none, some 2, .alloc [.int .u8 0, .int .i64 0, .int .i64 0, .int .u8 0, .lit (.slice none 0 0)]⟩,
    ⟨none, some 3, .asg (.c (.int .i64 0))⟩])
 (.seq (.region [⟨none, some 14, .mov (.t 0)⟩,
    ⟨none, some 15, .call 25 [(.t 14)]⟩,
    ⟨none, some 13, .mov (.t 15)⟩,
    ⟨none, some 16, .ext (.t 13) 0⟩,
    ⟨none, some 17, .ext (.t 13) 1⟩,
    ⟨none, some 18, .ext (.t 13) 2⟩,
    ⟨none, some 4, .asg (.t 16)⟩,
    ⟨none, some 5, .asg (.t 17)⟩,
    ⟨none, some 6, .asg (.t 18)⟩])
 (.seq (.seq (.region [⟨none, some 19, .mov (.t 6)⟩,
     ⟨none, some 20, .bin .neq (.t 19) (.c (.int .i64 0))⟩])
  (.cond (.t 20) (.seq (.region [⟨none, some 21, .build [.int .u8 0, .int .i64 0, .int .i64 0, .int .u8 0, .lit (.slice none 0 0)] []⟩,
      ⟨none, some 22, .mov (.t 6)⟩,
      ⟨none, none, .st (.t 2) (.t 21) 5⟩,
      ⟨none, some 3, .asg (.t 22)⟩])
   (.ret))
   (.skip)))
 (.seq (.seq (.region [⟨none, some 23, .mov (.t 5)⟩,
     ⟨none, some 24, .mov (.t 0)⟩,
     ⟨none, some 25, .len false (.t 24)⟩,
     ⟨none, some 26, .bin .neq (.t 23) (.t 25)⟩,
     ⟨none, some 27, .mov (.t 26)⟩,
     ⟨some (27, false), some 28, .mov (.t 4)⟩,
     ⟨some (27, false), some 29, .len false (.t 28)⟩,
     ⟨some (27, false), some 30, .bin .lss (.t 29) (.c (.int .i64 9))⟩,
     ⟨none, some 31, .pick (.t 27) (.c (.bool true)) (.t 30)⟩])
  (.cond (.t 31) (.seq (.region [⟨none, some 32, .build [.int .u8 0, .int .i64 0, .int .i64 0, .int .u8 0, .lit (.slice none 0 0)] []⟩,
      ⟨none, none, .st (.t 2) (.t 32) 5⟩,
      ⟨none, some 3, .asg (.c (.int .i64 8))⟩])
   (.ret))
   (.skip)))
 (.seq (.region [⟨none, some 34, .mov (.t 4)⟩,
    ⟨none, some 35, .slc (.t 34) (some (.c (.int .i64 9))) none none 1⟩,
    ⟨none, some 36, .call 26 [(.t 35)]⟩,
    ⟨none, some 33, .mov (.t 36)⟩,
    ⟨none, some 37, .ext (.t 33) 0⟩,
    ⟨none, some 38, .ext (.t 33) 1⟩,
    ⟨none, some 39, .ext (.t 33) 2⟩,
    ⟨none, some 40, .ext (.t 33) 3⟩,
    ⟨none, some 7, .asg (.t 37)⟩,
    ⟨none, some 8, .asg (.t 38)⟩,
    ⟨none, some 9, .asg (.t 39)⟩,
    ⟨none, some 6, .asg (.t 40)⟩])
 (.seq (.draw (.pure 0 (.pure 1 (.pure 2 (.pure 3 (.pure 4 (.pure 7 (.pure 8 (.pure 11 (.pure 12 (.alt 5 (.pure 6 (.alt 9 (.pure 10 (.pure 13 (.alt 14 (.alt 15 .nil .stop) .stop))) (.alt 14 (.alt 9 (.pure 10 (.pure 13 (.alt 15 .nil .stop))) .stop) .stop))) (.alt 14 (.alt 5 (.pure 6 (.alt 9 (.pure 10 (.pure 13 (.alt 15 .nil .stop))) .stop)) .stop) .stop))))))))))) [(5, 4), (9, 4), (9, 8), (15, 2), (15, 4), (15, 8)] [⟨none, some 41, .mov (.t 4)⟩,
    ⟨none, some 42, .idx (.t 41) (.c (.int .i64 0)) 1⟩,
    ⟨none, some 43, .ld (.t 42) none⟩,
    ⟨none, some 44, .mov (.t 4)⟩,
    ⟨none, some 45, .slc (.t 44) (some (.c (.int .i64 1))) (some (.c (.int .i64 5))) none 1⟩,
    ⟨none, some 46, .call 27 [(.t 45)]⟩,
    ⟨none, some 47, .conv .i64 (.t 46)⟩,
    ⟨none, some 48, .mov (.t 4)⟩,
    ⟨none, some 49, .slc (.t 48) (some (.c (.int .i64 5))) (some (.c (.int .i64 9))) none 1⟩,
    ⟨none, some 50, .call 27 [(.t 49)]⟩,
    ⟨none, some 51, .conv .i64 (.t 50)⟩,
    ⟨none, some 52, .mov (.t 7)⟩,
    ⟨none, some 53, .mov (.t 8)⟩,
    ⟨none, some 54, .build [.int .u8 0, .int .i64 0, .int .i64 0, .int .u8 0, .lit (.slice none 0 0)] [(0, 1, (.t 43)), (1, 1, (.t 47)), (2, 1, (.t 51)), (3, 1, (.t 52)), (4, 1, (.t 53))]⟩,
    ⟨none, some 10, .alloc [.int .u8 0, .int .i64 0, .int .i64 0, .int .u8 0, .lit (.slice none 0 0)]⟩,
    ⟨none, none, .st (.t 10) (.t 54) 5⟩])
 (.seq (.region [⟨none, some 56, .ld (.t 10) (some 5)⟩,
    ⟨none, some 57, .call 18 [(.t 56)]⟩,
    ⟨none, some 55, .mov (.t 57)⟩,
    ⟨none, some 58, .ext (.t 55) 0⟩,
    ⟨none, some 59, .ext (.t 55) 1⟩,
    ⟨none, some 11, .asg (.t 58)⟩,
    ⟨none, some 12, .asg (.t 59)⟩])
 (.seq (.seq (.region [⟨none, some 60, .mov (.t 6)⟩,
     ⟨none, some 61, .bin .neq (.t 60) (.c (.int .i64 0))⟩,
     ⟨none, some 62, .mov (.t 61)⟩,
     ⟨some (62, false), some 63, .mov (.t 12)⟩,
     ⟨some (62, false), some 64, .bin .neq (.t 63) (.c (.int .i64 0))⟩,
     ⟨none, some 65, .pick (.t 62) (.c (.bool true)) (.t 64)⟩,
     ⟨none, some 66, .mov (.t 65)⟩,
     ⟨some (66, false), some 67, .mov (.t 11)⟩,
     ⟨some (66, false), some 68, .mov (.t 0)⟩,
     ⟨some (66, false), some 69, .call 28 [(.t 67), (.t 68)]⟩,
     ⟨some (66, false), some 70, .not (.t 69)⟩,
     ⟨none, some 71, .pick (.t 66) (.c (.bool true)) (.t 70)⟩])
  (.cond (.t 71) (.seq (.region [⟨none, some 72, .build [.int .u8 0, .int .i64 0, .int .i64 0, .int .u8 0, .lit (.slice none 0 0)] []⟩,
      ⟨none, none, .st (.t 2) (.t 72) 5⟩,
      ⟨none, some 3, .asg (.c (.int .i64 8))⟩])
   (.ret))
   (.skip)))
 (.seq (.region [⟨none, some 73, .ld (.t 10) (some 5)⟩,
    ⟨none, none, .st (.t 2) (.t 73) 5⟩,
    ⟨none, some 3, .asg (.c (.int .i64 0))⟩])
 (.ret)))))))))
theorem ref20_Read.k : chkFn Go.Proofs.Try.prog 16 74 [.cell 2 (some 5), .tmp 3] ref20_Read.c = true := by kernel_rfl

/-- conclave/conclaveref20.Write: function 18; parameters: api.Msg; results: []uint8, int -/
def ref20_Write.c : ACode :=
 .seq (.region [⟨none, some 1, .box (.t 0)⟩,
    ⟨none, some 2, .asg (.c (.lit (.slice none 0 0)))⟩,
    ⟨none, some 3, .asg (.c (.int .i64 0))⟩])
 (.seq (.seq (.region [⟨none, some 7, .ld (.t 1) (some 5)⟩,
     ⟨none, some 8, .call 29 [(.t 7)]⟩,
     ⟨none, some 9, .not (.t 8)⟩])
  (.cond (.t 9) (.seq (.region [⟨none, some 2, .asg (.c (.lit (.slice none 0 0)))⟩,
      ⟨none, some 3, .asg (.c (.int .i64 2))⟩])
   (.ret))
   (.skip)))
 (.seq (.draw (.pure 0 (.pure 1 (.pure 3 (.pure 4 (.pure 5 (.alt 2 (.alt 6 (.alt 7 (.alt 8 .nil .stop) .stop) .stop) (.alt 6 (.alt 2 (.alt 7 (.alt 8 .nil .stop) .stop) .stop) .stop))))))) [(2, 1), (6, 4), (7, 1), (7, 4), (8, 1), (8, 4)] [⟨none, some 10, .fld (.t 1) 0⟩,
    ⟨none, some 11, .ld (.t 10) none⟩,
    ⟨none, some 12, .bslice 1 [.int .u8 0] [(0, 1, (.t 11))]⟩,
    ⟨none, some 13, .fld (.t 1) 1⟩,
    ⟨none, some 14, .ld (.t 13) none⟩,
    ⟨none, some 15, .conv .u64 (.t 14)⟩,
    ⟨none, some 16, .call 30 [(.t 15), (.c (.int .i64 4))]⟩,
    ⟨none, some 17, .app (.t 12) (.t 16) 1 1⟩,
    ⟨none, some 4, .asg (.t 17)⟩])
 (.seq (.region [⟨none, some 18, .mov (.t 4)⟩,
    ⟨none, some 19, .fld (.t 1) 2⟩,
    ⟨none, some 20, .ld (.t 19) none⟩,
    ⟨none, some 21, .conv .u64 (.t 20)⟩,
    ⟨none, some 22, .call 30 [(.t 21), (.c (.int .i64 4))]⟩,
    ⟨none, some 23, .app (.t 18) (.t 22) 1 1⟩,
    ⟨none, some 4, .asg (.t 23)⟩])
 (.seq (.region [⟨none, some 25, .fld (.t 1) 3⟩,
    ⟨none, some 26, .ld (.t 25) none⟩,
    ⟨none, some 27, .fld (.t 1) 4⟩,
    ⟨none, some 28, .ld (.t 27) none⟩,
    ⟨none, some 29, .call 31 [(.t 26), (.t 28)]⟩,
    ⟨none, some 24, .mov (.t 29)⟩,
    ⟨none, some 30, .ext (.t 24) 0⟩,
    ⟨none, some 31, .ext (.t 24) 1⟩,
    ⟨none, some 5, .asg (.t 30)⟩,
    ⟨none, some 6, .asg (.t 31)⟩])
 (.seq (.region [⟨none, some 32, .mov (.t 4)⟩,
    ⟨none, some 33, .mov (.t 5)⟩,
    ⟨none, some 34, .app (.t 32) (.t 33) 1 1⟩,
    ⟨none, some 35, .call 32 [(.t 34)]⟩,
    ⟨none, some 36, .ext (.t 35) 0⟩,
    ⟨none, some 37, .ext (.t 35) 1⟩,
    ⟨none, some 2, .asg (.t 36)⟩,
    ⟨none, some 3, .asg (.t 37)⟩])
 (.ret))))))
theorem ref20_Write.k : chkFn Go.Proofs.Try.prog 18 38 [.tmp 2, .tmp 3] ref20_Write.c = true := by kernel_rfl

/-- conclave/conclaveref20.May: function 29; parameters: api.Msg; results: bool -/
def ref20_May.c : ACode :=
 .seq (.region [⟨none, some 1, .box (.t 0)⟩,
    ⟨none, some 2, .asg (.c (.bool false))⟩])
 (.seq (.region [⟨none, some 3, .fld (.t 1) 0⟩,
    ⟨none, some 4, .ld (.t 3) none⟩,
    ⟨none, some 5, .bin .eql (.t 4) (.c (.int .u8 1))⟩,
    ⟨none, some 6, .mov (.t 5)⟩,
    ⟨some (6, false), some 7, .fld (.t 1) 0⟩,
    ⟨some (6, false), some 8, .ld (.t 7) none⟩,
    ⟨some (6, false), some 9, .bin .eql (.t 8) (.c (.int .u8 2))⟩,
    ⟨none, some 10, .pick (.t 6) (.c (.bool true)) (.t 9)⟩,
    ⟨none, some 11, .mov (.t 10)⟩,
    ⟨some (11, true), some 12, .fld (.t 1) 1⟩,
    ⟨some (11, true), some 13, .ld (.t 12) none⟩,
    ⟨some (11, true), some 14, .bin .geq (.t 13) (.c (.int .i64 0))⟩,
    ⟨none, some 15, .pick (.t 11) (.t 14) (.c (.bool false))⟩,
    ⟨none, some 16, .mov (.t 15)⟩,
    ⟨some (16, true), some 17, .fld (.t 1) 1⟩,
    ⟨some (16, true), some 18, .ld (.t 17) none⟩,
    ⟨some (16, true), some 19, .bin .lss (.t 18) (.c (.int .i64 65536))⟩,
    ⟨none, some 20, .pick (.t 16) (.t 19) (.c (.bool false))⟩,
    ⟨none, some 21, .mov (.t 20)⟩,
    ⟨some (21, true), some 22, .fld (.t 1) 2⟩,
    ⟨some (21, true), some 23, .ld (.t 22) none⟩,
    ⟨some (21, true), some 24, .bin .geq (.t 23) (.c (.int .i64 0))⟩,
    ⟨none, some 25, .pick (.t 21) (.t 24) (.c (.bool false))⟩,
    ⟨none, some 26, .mov (.t 25)⟩,
    ⟨some (26, true), some 27, .fld (.t 1) 2⟩,
    ⟨some (26, true), some 28, .ld (.t 27) none⟩,
    ⟨some (26, true), some 29, .bin .lss (.t 28) (.c (.int .i64 64))⟩,
    ⟨none, some 30, .pick (.t 26) (.t 29) (.c (.bool false))⟩,
    ⟨none, some 31, .mov (.t 30)⟩,
    ⟨some (31, true), some 32, .fld (.t 1) 3⟩,
    ⟨some (31, true), some 33, .ld (.t 32) none⟩,
    ⟨some (31, true), some 34, .fld (.t 1) 4⟩,
    ⟨some (31, true), some 35, .ld (.t 34) none⟩,
    ⟨some (31, true), some 36, .call 21 [(.t 33), (.t 35)]⟩,
    ⟨none, some 37, .pick (.t 31) (.t 36) (.c (.bool false))⟩,
    ⟨none, some 38, .mov (.t 37)⟩,
    ⟨some (38, true), some 39, .fld (.t 1) 4⟩,
    ⟨some (38, true), some 40, .ld (.t 39) none⟩,
    ⟨some (38, true), some 41, .len false (.t 40)⟩,
    ⟨some (38, true), some 42, .bin .leq (.t 41) (.c (.int .i64 64))⟩,
    ⟨none, some 43, .pick (.t 38) (.t 42) (.c (.bool false))⟩,
    ⟨none, some 2, .asg (.t 43)⟩])
 (.ret))
theorem ref20_May.k : chkFn Go.Proofs.Try.prog 29 44 [.tmp 2] ref20_May.c = true := by kernel_rfl

end Go.Proofs.Ytilhkgfhhkkolaa.C
