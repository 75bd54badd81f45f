import Derived.Test.YtginchgkbgcimaaDoorAdef
import Derived.Test.YtginchgkbgcimaaDoorProg
import Derived.KernelRfl
namespace Go.Proofs.YtginchgkbgcimaaDoor.C
open Go Go.RowKit Go.Proofs.YtginchgkbgcimaaDoor.AL

/-- conclave/conclaveref09.Same: function 13; parameters: api.Prog, api.Prog; results: bool -/
def ref09_Same.c : ACode :=
 .seq (.region [⟨none, some 2, .box (.t 0)⟩,
    ⟨none, some 3, .box (.t 1)⟩,
    ⟨none, some 4, .asg (.c (.bool false))⟩])
 (.seq (.seq (.region [⟨none, some 6, .fld (.t 2) 0⟩,
     ⟨none, some 7, .ld (.t 6) none⟩,
     ⟨none, some 8, .fld (.t 3) 0⟩,
     ⟨none, some 9, .ld (.t 8) none⟩,
     ⟨none, some 10, .bin .neq (.t 7) (.t 9)⟩,
     ⟨none, some 11, .mov (.t 10)⟩,
     ⟨some (11, false), some 12, .fld (.t 2) 1⟩,
     ⟨some (11, false), some 13, .ld (.t 12) none⟩,
     ⟨some (11, false), some 14, .len false (.t 13)⟩,
     ⟨some (11, false), some 15, .fld (.t 3) 1⟩,
     ⟨some (11, false), some 16, .ld (.t 15) none⟩,
     ⟨some (11, false), some 17, .len false (.t 16)⟩,
     ⟨some (11, false), some 18, .bin .neq (.t 14) (.t 17)⟩,
     ⟨none, some 19, .pick (.t 11) (.c (.bool true)) (.t 18)⟩])
  (.cond (.t 19) (.seq (.region [⟨none, some 4, .asg (.c (.bool false))⟩])
   (.ret))
   (.skip)))
 (.seq (.seq (.region [⟨none, some 5, .asg (.c (.int .i64 0))⟩])
  (.block 0 (.loop (.seq (.seq (.region [⟨none, some 20, .mov (.t 5)⟩,
        ⟨none, some 21, .fld (.t 2) 1⟩,
        ⟨none, some 22, .ld (.t 21) none⟩,
        ⟨none, some 23, .len false (.t 22)⟩,
        ⟨none, some 24, .bin .lss (.t 20) (.t 23)⟩])
     (.cond (.t 24) (.skip)
      (.exit 0)))
    (.seq (.block 1 (.seq (.draw (.pure 0 (.pure 1 (.pure 2 (.pure 3 (.pure 4 (.pure 5 (.pure 6 (.pure 7 (.pure 8 (.pure 9 (.pure 10 .nil))))))))))) [] [⟨none, some 27, .fld (.t 2) 1⟩,
         ⟨none, some 28, .ld (.t 27) none⟩,
         ⟨none, some 29, .mov (.t 5)⟩,
         ⟨none, some 30, .idx (.t 28) (.t 29) 4⟩,
         ⟨none, some 31, .ld (.t 30) (some 4)⟩,
         ⟨none, some 32, .fld (.t 3) 1⟩,
         ⟨none, some 33, .ld (.t 32) none⟩,
         ⟨none, some 34, .mov (.t 5)⟩,
         ⟨none, some 35, .idx (.t 33) (.t 34) 4⟩,
         ⟨none, some 36, .ld (.t 35) (some 4)⟩,
         ⟨none, some 37, .eq (.flat [1, 1, 1, 1]) true (.t 31) (.t 36)⟩])
      (.cond (.t 37) (.seq (.region [⟨none, some 4, .asg (.c (.bool false))⟩])
       (.ret))
       (.skip))))
    (.region [⟨none, some 25, .mov (.t 5)⟩,
      ⟨none, some 26, .bin .add (.t 25) (.c (.int .i64 1))⟩,
      ⟨none, some 5, .asg (.t 26)⟩]))))))
 (.seq (.region [⟨none, some 38, .fld (.t 2) 2⟩,
    ⟨none, some 39, .ld (.t 38) none⟩,
    ⟨none, some 40, .fld (.t 3) 2⟩,
    ⟨none, some 41, .ld (.t 40) none⟩,
    ⟨none, some 42, .call 36 [(.t 39), (.t 41)]⟩,
    ⟨none, some 4, .asg (.t 42)⟩])
 (.ret))))
abbrev ref09_Same.D0 : List Nat := [4, 5, 20, 21, 22, 23, 24, 25, 26, 27, 28, 29, 30, 31, 32, 33, 34, 35, 36, 37]
abbrev ref09_Same.K0 : List Nat := [4, 5, 20, 21, 22, 23, 24, 25, 26, 27, 28, 29, 30, 31, 32, 33, 34, 35, 36, 37]
abbrev ref09_Same.K1 : List Nat := [4, 27, 28, 29, 30, 31, 32, 33, 34, 35, 36, 37]
theorem ref09_Same.k : chkFn Go.Proofs.Tryd.prog 13 43 [.tmp 4] ref09_Same.c = true := by kernel_rfl

/-- conclave/conclaveref09.Ints: function 36; parameters: []int, []int; results: bool -/
def ref09_Ints.c : ACode :=
 .seq (.region [⟨none, some 4, .asg (.c (.bool false))⟩])
 (.seq (.seq (.region [⟨none, some 6, .mov (.t 0)⟩,
     ⟨none, some 7, .len false (.t 6)⟩,
     ⟨none, some 8, .mov (.t 1)⟩,
     ⟨none, some 9, .len false (.t 8)⟩,
     ⟨none, some 10, .bin .neq (.t 7) (.t 9)⟩])
  (.cond (.t 10) (.seq (.region [⟨none, some 4, .asg (.c (.bool false))⟩])
   (.ret))
   (.skip)))
 (.seq (.seq (.region [⟨none, some 5, .asg (.c (.int .i64 0))⟩])
  (.block 0 (.loop (.seq (.seq (.region [⟨none, some 11, .mov (.t 5)⟩,
        ⟨none, some 12, .mov (.t 0)⟩,
        ⟨none, some 13, .len false (.t 12)⟩,
        ⟨none, some 14, .bin .lss (.t 11) (.t 13)⟩])
     (.cond (.t 14) (.skip)
      (.exit 0)))
    (.seq (.block 1 (.seq (.draw (.pure 0 (.pure 1 (.pure 2 (.pure 3 (.pure 4 (.pure 5 (.pure 6 (.pure 7 (.pure 8 .nil))))))))) [] [⟨none, some 17, .mov (.t 0)⟩,
         ⟨none, some 18, .mov (.t 5)⟩,
         ⟨none, some 19, .idx (.t 17) (.t 18) 1⟩,
         ⟨none, some 20, .ld (.t 19) none⟩,
         ⟨none, some 21, .mov (.t 1)⟩,
         ⟨none, some 22, .mov (.t 5)⟩,
         ⟨none, some 23, .idx (.t 21) (.t 22) 1⟩,
         ⟨none, some 24, .ld (.t 23) none⟩,
         ⟨none, some 25, .bin .neq (.t 20) (.t 24)⟩])
      (.cond (.t 25) (.seq (.region [⟨none, some 4, .asg (.c (.bool false))⟩])
       (.ret))
       (.skip))))
    (.region [⟨none, some 15, .mov (.t 5)⟩,
      ⟨none, some 16, .bin .add (.t 15) (.c (.int .i64 1))⟩,
      ⟨none, some 5, .asg (.t 16)⟩]))))))
 (.seq (.region [⟨none, some 4, .asg (.c (.bool true))⟩])
 (.ret))))
abbrev ref09_Ints.D0 : List Nat := [4, 5, 11, 12, 13, 14, 15, 16, 17, 18, 19, 20, 21, 22, 23, 24, 25]
abbrev ref09_Ints.K0 : List Nat := [4, 5, 11, 12, 13, 14, 15, 16, 17, 18, 19, 20, 21, 22, 23, 24, 25]
abbrev ref09_Ints.K1 : List Nat := [4, 17, 18, 19, 20, 21, 22, 23, 24, 25]
theorem ref09_Ints.k : chkFn Go.Proofs.Tryd.prog 36 26 [.tmp 4] ref09_Ints.c = true := by kernel_rfl

/-- conclave/conclaveref09.May: function 14; parameters: api.Prog; results: bool -/
def ref09_May.c : ACode :=
 .seq (.region [⟨none, some 1, .box (.t 0)⟩,
    ⟨none, some 2, .asg (.c (.bool false))⟩])
 (.seq (.seq (.region [⟨none, some 5, .fld (.t 1) 0⟩,
     ⟨none, some 6, .ld (.t 5) none⟩,
     ⟨none, some 7, .bin .lss (.t 6) (.c (.int .i64 0))⟩,
     ⟨none, some 8, .mov (.t 7)⟩,
     ⟨some (8, false), some 9, .fld (.t 1) 0⟩,
     ⟨some (8, false), some 10, .ld (.t 9) none⟩,
     ⟨some (8, false), some 11, .bin .gtr (.t 10) (.c (.int .i64 64))⟩,
     ⟨none, some 12, .pick (.t 8) (.c (.bool true)) (.t 11)⟩,
     ⟨none, some 13, .mov (.t 12)⟩,
     ⟨some (13, false), some 14, .fld (.t 1) 1⟩,
     ⟨some (13, false), some 15, .ld (.t 14) none⟩,
     ⟨some (13, false), some 16, .len false (.t 15)⟩,
     ⟨some (13, false), some 17, .bin .gtr (.t 16) (.c (.int .i64 256))⟩,
     ⟨none, some 18, .pick (.t 13) (.c (.bool true)) (.t 17)⟩,
     ⟨none, some 19, .mov (.t 18)⟩,
     ⟨some (19, false), some 20, .fld (.t 1) 2⟩,
     ⟨some (19, false), some 21, .ld (.t 20) none⟩,
     ⟨some (19, false), some 22, .len false (.t 21)⟩,
     ⟨some (19, false), some 23, .bin .gtr (.t 22) (.c (.int .i64 64))⟩,
     ⟨none, some 24, .pick (.t 19) (.c (.bool true)) (.t 23)⟩])
  (.cond (.t 24) (.seq (.region [⟨none, some 2, .asg (.c (.bool false))⟩])
   (.ret))
   (.skip)))
 (.seq (.seq (.region [⟨none, some 3, .asg (.c (.int .i64 0))⟩])
  (.block 0 (.loop (.seq (.seq (.region [⟨none, some 25, .mov (.t 3)⟩,
        ⟨none, some 26, .fld (.t 1) 1⟩,
        ⟨none, some 27, .ld (.t 26) none⟩,
        ⟨none, some 28, .len false (.t 27)⟩,
        ⟨none, some 29, .bin .lss (.t 25) (.t 28)⟩])
     (.cond (.t 29) (.skip)
      (.exit 0)))
    (.seq (.block 1 (.seq (.draw (.pure 0 (.pure 1 (.pure 2 (.pure 3 (.pure 4 (.pure 5 (.pure 6 (.pure 7 (.pure 8 (.alt 9 (.pure 10 .nil) .stop)))))))))) [(9, 1), (9, 4), (9, 6)] [⟨none, some 32, .fld (.t 1) 1⟩,
         ⟨none, some 33, .ld (.t 32) none⟩,
         ⟨none, some 34, .mov (.t 3)⟩,
         ⟨none, some 35, .idx (.t 33) (.t 34) 4⟩,
         ⟨none, some 36, .ld (.t 35) (some 4)⟩,
         ⟨none, some 37, .fld (.t 1) 0⟩,
         ⟨none, some 38, .ld (.t 37) none⟩,
         ⟨none, some 39, .mov (.t 3)⟩,
         ⟨none, some 40, .bin .add (.t 38) (.t 39)⟩,
         ⟨none, some 41, .call 37 [(.t 36), (.t 40)]⟩,
         ⟨none, some 42, .not (.t 41)⟩])
      (.cond (.t 42) (.seq (.region [⟨none, some 2, .asg (.c (.bool false))⟩])
       (.ret))
       (.skip))))
    (.region [⟨none, some 30, .mov (.t 3)⟩,
      ⟨none, some 31, .bin .add (.t 30) (.c (.int .i64 1))⟩,
      ⟨none, some 3, .asg (.t 31)⟩]))))))
 (.seq (.seq (.region [⟨none, some 4, .asg (.c (.int .i64 0))⟩])
  (.block 2 (.loop (.seq (.seq (.region [⟨none, some 43, .mov (.t 4)⟩,
        ⟨none, some 44, .fld (.t 1) 2⟩,
        ⟨none, some 45, .ld (.t 44) none⟩,
        ⟨none, some 46, .len false (.t 45)⟩,
        ⟨none, some 47, .bin .lss (.t 43) (.t 46)⟩])
     (.cond (.t 47) (.skip)
      (.exit 2)))
    (.seq (.block 3 (.seq (.draw (.pure 0 (.pure 1 (.pure 2 (.pure 3 (.pure 4 (.pure 5 (.pure 6 (.pure 7 (.pure 8 (.pure 9 (.pure 10 (.pure 11 (.pure 12 (.pure 13 (.pure 14 (.pure 15 (.pure 16 (.pure 17 (.pure 18 (.pure 19 .nil)))))))))))))))))))) [] [⟨none, some 50, .fld (.t 1) 2⟩,
         ⟨none, some 51, .ld (.t 50) none⟩,
         ⟨none, some 52, .mov (.t 4)⟩,
         ⟨none, some 53, .idx (.t 51) (.t 52) 1⟩,
         ⟨none, some 54, .ld (.t 53) none⟩,
         ⟨none, some 55, .bin .lss (.t 54) (.c (.int .i64 0))⟩,
         ⟨none, some 56, .mov (.t 55)⟩,
         ⟨some (56, false), some 57, .fld (.t 1) 2⟩,
         ⟨some (56, false), some 58, .ld (.t 57) none⟩,
         ⟨some (56, false), some 59, .mov (.t 4)⟩,
         ⟨some (56, false), some 60, .idx (.t 58) (.t 59) 1⟩,
         ⟨some (56, false), some 61, .ld (.t 60) none⟩,
         ⟨some (56, false), some 62, .fld (.t 1) 0⟩,
         ⟨some (56, false), some 63, .ld (.t 62) none⟩,
         ⟨some (56, false), some 64, .fld (.t 1) 1⟩,
         ⟨some (56, false), some 65, .ld (.t 64) none⟩,
         ⟨some (56, false), some 66, .len false (.t 65)⟩,
         ⟨some (56, false), some 67, .bin .add (.t 63) (.t 66)⟩,
         ⟨some (56, false), some 68, .bin .geq (.t 61) (.t 67)⟩,
         ⟨none, some 69, .pick (.t 56) (.c (.bool true)) (.t 68)⟩])
      (.cond (.t 69) (.seq (.region [⟨none, some 2, .asg (.c (.bool false))⟩])
       (.ret))
       (.skip))))
    (.region [⟨none, some 48, .mov (.t 4)⟩,
      ⟨none, some 49, .bin .add (.t 48) (.c (.int .i64 1))⟩,
      ⟨none, some 4, .asg (.t 49)⟩]))))))
 (.seq (.region [⟨none, some 2, .asg (.c (.bool true))⟩])
 (.ret)))))
abbrev ref09_May.D0 : List Nat := [2, 3, 25, 26, 27, 28, 29, 30, 31, 32, 33, 34, 35, 36, 37, 38, 39, 40, 41, 42]
abbrev ref09_May.D1 : List Nat := [2, 4, 43, 44, 45, 46, 47, 48, 49, 50, 51, 52, 53, 54, 55, 56, 57, 58, 59, 60, 61, 62, 63, 64, 65, 66, 67, 68, 69]
abbrev ref09_May.K0 : List Nat := [2, 3, 25, 26, 27, 28, 29, 30, 31, 32, 33, 34, 35, 36, 37, 38, 39, 40, 41, 42]
abbrev ref09_May.K1 : List Nat := [2, 32, 33, 34, 35, 36, 37, 38, 39, 40, 41, 42]
abbrev ref09_May.K2 : List Nat := [2, 4, 43, 44, 45, 46, 47, 48, 49, 50, 51, 52, 53, 54, 55, 56, 57, 58, 59, 60, 61, 62, 63, 64, 65, 66, 67, 68, 69]
abbrev ref09_May.K3 : List Nat := [2, 50, 51, 52, 53, 54, 55, 56, 57, 58, 59, 60, 61, 62, 63, 64, 65, 66, 67, 68, 69]
theorem ref09_May.k : chkFn Go.Proofs.Tryd.prog 14 70 [.tmp 2] ref09_May.c = true := by kernel_rfl

/-- conclave/conclaveref09.op: function 37; parameters: api.Op, int; results: bool -/
def ref09_op.c : ACode :=
 .seq (.region [⟨none, some 2, .box (.t 0)⟩,
    ⟨none, some 4, .asg (.c (.bool false))⟩])
 (.seq (.seq (.region [⟨none, some 5, .fld (.t 2) 0⟩,
     ⟨none, some 6, .ld (.t 5) none⟩])
  (.block 0 (.seq (.seq (.region [⟨none, some 8, .bin .eql (.t 6) (.c (.int .u8 1))⟩,
       ⟨none, some 7, .asg (.t 8)⟩])
    (.cond (.t 7) (.skip)
     (.seq (.region [⟨none, some 9, .bin .eql (.t 6) (.c (.int .u8 2))⟩,
        ⟨none, some 7, .asg (.t 9)⟩])
     (.cond (.t 7) (.skip)
      (.region [⟨none, some 10, .bin .eql (.t 6) (.c (.int .u8 3))⟩,
        ⟨none, some 7, .asg (.t 10)⟩])))))
   (.cond (.t 7) (.seq (.region [⟨none, some 11, .fld (.t 2) 1⟩,
       ⟨none, some 12, .ld (.t 11) none⟩,
       ⟨none, some 13, .bin .geq (.t 12) (.c (.int .i64 0))⟩,
       ⟨none, some 14, .mov (.t 13)⟩,
       ⟨some (14, true), some 15, .fld (.t 2) 1⟩,
       ⟨some (14, true), some 16, .ld (.t 15) none⟩,
       ⟨some (14, true), some 17, .mov (.t 1)⟩,
       ⟨some (14, true), some 18, .bin .lss (.t 16) (.t 17)⟩,
       ⟨none, some 19, .pick (.t 14) (.t 18) (.c (.bool false))⟩,
       ⟨none, some 20, .mov (.t 19)⟩,
       ⟨some (20, true), some 21, .fld (.t 2) 2⟩,
       ⟨some (20, true), some 22, .ld (.t 21) none⟩,
       ⟨some (20, true), some 23, .bin .geq (.t 22) (.c (.int .i64 0))⟩,
       ⟨none, some 24, .pick (.t 20) (.t 23) (.c (.bool false))⟩,
       ⟨none, some 25, .mov (.t 24)⟩,
       ⟨some (25, true), some 26, .fld (.t 2) 2⟩,
       ⟨some (25, true), some 27, .ld (.t 26) none⟩,
       ⟨some (25, true), some 28, .mov (.t 1)⟩,
       ⟨some (25, true), some 29, .bin .lss (.t 27) (.t 28)⟩,
       ⟨none, some 30, .pick (.t 25) (.t 29) (.c (.bool false))⟩,
       ⟨none, some 31, .mov (.t 30)⟩,
       ⟨some (31, true), some 32, .fld (.t 2) 3⟩,
       ⟨some (31, true), some 33, .ld (.t 32) none⟩,
       ⟨some (31, true), some 34, .bin .eql (.t 33) (.c (.int .u64 0))⟩,
       ⟨none, some 35, .pick (.t 31) (.t 34) (.c (.bool false))⟩,
       ⟨none, some 4, .asg (.t 35)⟩])
    (.ret))
    (.seq (.region [⟨none, some 37, .bin .eql (.t 6) (.c (.int .u8 4))⟩,
       ⟨none, some 36, .asg (.t 37)⟩])
    (.cond (.t 36) (.seq (.region [⟨none, some 38, .fld (.t 2) 1⟩,
        ⟨none, some 39, .ld (.t 38) none⟩,
        ⟨none, some 40, .bin .eql (.t 39) (.c (.int .i64 0))⟩,
        ⟨none, some 41, .mov (.t 40)⟩,
        ⟨some (41, true), some 42, .fld (.t 2) 2⟩,
        ⟨some (41, true), some 43, .ld (.t 42) none⟩,
        ⟨some (41, true), some 44, .bin .eql (.t 43) (.c (.int .i64 0))⟩,
        ⟨none, some 45, .pick (.t 41) (.t 44) (.c (.bool false))⟩,
        ⟨none, some 4, .asg (.t 45)⟩])
     (.ret))
     (.skip)))))))
 (.seq (.region [⟨none, some 4, .asg (.c (.bool false))⟩])
 (.ret)))
abbrev ref09_op.K0 : List Nat := [4, 7, 8, 9, 10, 11, 12, 13, 14, 15, 16, 17, 18, 19, 20, 21, 22, 23, 24, 25, 26, 27, 28, 29, 30, 31, 32, 33, 34, 35, 36, 37, 38, 39, 40, 41, 42, 43, 44, 45]
theorem ref09_op.k : chkFn Go.Proofs.Tryd.prog 37 46 [.tmp 4] ref09_op.c = true := by kernel_rfl

/-- conclave/conclaveref09.After: function 19; parameters: api.Prog, api.Prog; results: api.Prog, int -/
def ref09_After.c : ACode :=
 .seq (.region [⟨none, some 2, .box (.t 0)⟩,
    ⟨none, some 3, .box (.t 1)⟩,
    ⟨none, some 4, .alloc [.int .i64 0, .lit (.slice none 0 0), .lit (.slice none 0 0)]⟩,
    ⟨none, some 5, .asg (.c (.int .i64 0))⟩])
 (.seq (.seq (.region [⟨none, some 11, .ld (.t 2) (some 3)⟩,
     ⟨none, some 12, .call 14 [(.t 11)]⟩,
     ⟨none, some 13, .not (.t 12)⟩,
     ⟨none, some 14, .mov (.t 13)⟩,
     ⟨some (14, false), some 15, .ld (.t 3) (some 3)⟩,
     ⟨some (14, false), some 16, .call 14 [(.t 15)]⟩,
     ⟨some (14, false), some 17, .not (.t 16)⟩,
     ⟨none, some 18, .pick (.t 14) (.c (.bool true)) (.t 17)⟩,
     ⟨none, some 19, .mov (.t 18)⟩,
     ⟨some (19, false), some 20, .fld (.t 3) 2⟩,
     ⟨some (19, false), some 21, .ld (.t 20) none⟩,
     ⟨some (19, false), some 22, .len false (.t 21)⟩,
     ⟨some (19, false), some 23, .fld (.t 2) 0⟩,
     ⟨some (19, false), some 24, .ld (.t 23) none⟩,
     ⟨some (19, false), some 25, .bin .neq (.t 22) (.t 24)⟩,
     ⟨none, some 26, .pick (.t 19) (.c (.bool true)) (.t 25)⟩])
  (.cond (.t 26) (.seq (.region [⟨none, some 27, .build [.int .i64 0, .lit (.slice none 0 0), .lit (.slice none 0 0)] []⟩,
      ⟨none, none, .st (.t 4) (.t 27) 3⟩,
      ⟨none, some 5, .asg (.c (.int .i64 2))⟩])
   (.ret))
   (.skip)))
 (.seq (.seq (.region [⟨none, some 28, .fld (.t 2) 1⟩,
     ⟨none, some 29, .ld (.t 28) none⟩,
     ⟨none, some 30, .len false (.t 29)⟩,
     ⟨none, some 31, .fld (.t 3) 1⟩,
     ⟨none, some 32, .ld (.t 31) none⟩,
     ⟨none, some 33, .len false (.t 32)⟩,
     ⟨none, some 34, .bin .add (.t 30) (.t 33)⟩,
     ⟨none, some 35, .bin .gtr (.t 34) (.c (.int .i64 256))⟩])
  (.cond (.t 35) (.seq (.region [⟨none, some 36, .build [.int .i64 0, .lit (.slice none 0 0), .lit (.slice none 0 0)] []⟩,
      ⟨none, none, .st (.t 4) (.t 36) 3⟩,
      ⟨none, some 5, .asg (.c (.int .i64 4))⟩])
   (.ret))
   (.skip)))
 (.seq (.region [⟨none, some 37, .bslice 0 [.int .i64 0] []⟩,
    ⟨none, some 38, .fld (.t 3) 2⟩,
    ⟨none, some 39, .ld (.t 38) none⟩,
    ⟨none, some 40, .app (.t 37) (.t 39) 1 8⟩,
    ⟨none, some 6, .asg (.t 40)⟩])
 (.seq (.draw (.pure 0 (.pure 1 (.pure 3 (.pure 4 (.alt 2 (.alt 5 (.pure 6 (.alt 7 (.alt 8 .nil .stop) .stop)) (.alt 7 (.alt 5 (.pure 6 (.alt 8 .nil .stop)) .stop) .stop)) (.alt 7 (.alt 2 (.alt 5 (.pure 6 (.alt 8 .nil .stop)) .stop) .stop) .stop)))))) [(5, 4), (8, 1), (8, 4)] [⟨none, some 41, .fld (.t 3) 0⟩,
    ⟨none, some 42, .ld (.t 41) none⟩,
    ⟨none, some 43, .bslice 0 [.int .u8 0, .int .i64 0, .int .i64 0, .int .u64 0] []⟩,
    ⟨none, some 44, .fld (.t 3) 1⟩,
    ⟨none, some 45, .ld (.t 44) none⟩,
    ⟨none, some 46, .app (.t 43) (.t 45) 4 32⟩,
    ⟨none, some 47, .build [.int .i64 0, .lit (.slice none 0 0), .lit (.slice none 0 0)] [(0, 1, (.t 42)), (1, 1, (.t 46))]⟩,
    ⟨none, some 7, .alloc [.int .i64 0, .lit (.slice none 0 0), .lit (.slice none 0 0)]⟩,
    ⟨none, none, .st (.t 7) (.t 47) 3⟩])
 (.seq (.seq (.region [⟨none, some 8, .asg (.c (.int .i64 0))⟩])
  (.block 0 (.loop (.seq (.seq (.region [⟨none, some 48, .mov (.t 8)⟩,
        ⟨none, some 49, .fld (.t 2) 1⟩,
        ⟨none, some 50, .ld (.t 49) none⟩,
        ⟨none, some 51, .len false (.t 50)⟩,
        ⟨none, some 52, .bin .lss (.t 48) (.t 51)⟩])
     (.cond (.t 52) (.skip)
      (.exit 0)))
    (.seq (.block 1 (.seq (.region [⟨none, some 55, .fld (.t 2) 1⟩,
         ⟨none, some 56, .ld (.t 55) none⟩,
         ⟨none, some 57, .mov (.t 8)⟩,
         ⟨none, some 58, .idx (.t 56) (.t 57) 4⟩,
         ⟨none, some 59, .ld (.t 58) (some 4)⟩,
         ⟨none, some 9, .alloc [.int .u8 0, .int .i64 0, .int .i64 0, .int .u64 0]⟩,
         ⟨none, none, .st (.t 9) (.t 59) 4⟩])
      (.seq (.seq (.region [⟨none, some 60, .fld (.t 9) 0⟩,
          ⟨none, some 61, .ld (.t 60) none⟩,
          ⟨none, some 62, .bin .neq (.t 61) (.c (.int .u8 4))⟩])
       (.cond (.t 62) (.draw (.pure 0 (.pure 1 (.pure 2 (.pure 3 (.pure 4 (.pure 5 (.pure 6 (.pure 7 (.pure 8 (.pure 9 (.pure 10 (.alt 11 (.pure 12 (.alt 13 .nil .stop)) .stop)))))))))))) [(11, 2), (11, 4), (11, 7), (13, 2), (13, 4), (13, 7), (13, 9)] [⟨none, some 63, .mov (.t 6)⟩,
          ⟨none, some 64, .fld (.t 9) 1⟩,
          ⟨none, some 65, .ld (.t 64) none⟩,
          ⟨none, some 66, .idx (.t 63) (.t 65) 1⟩,
          ⟨none, some 67, .ld (.t 66) none⟩,
          ⟨none, some 68, .mov (.t 6)⟩,
          ⟨none, some 69, .fld (.t 9) 2⟩,
          ⟨none, some 70, .ld (.t 69) none⟩,
          ⟨none, some 71, .idx (.t 68) (.t 70) 1⟩,
          ⟨none, some 72, .ld (.t 71) none⟩,
          ⟨none, some 73, .fld (.t 9) 1⟩,
          ⟨none, none, .st (.t 73) (.t 67) 1⟩,
          ⟨none, some 74, .fld (.t 9) 2⟩,
          ⟨none, none, .st (.t 74) (.t 72) 1⟩])
        (.skip)))
      (.seq (.region [⟨none, some 75, .mov (.t 6)⟩,
         ⟨none, some 76, .fld (.t 7) 0⟩,
         ⟨none, some 77, .ld (.t 76) none⟩,
         ⟨none, some 78, .fld (.t 7) 1⟩,
         ⟨none, some 79, .ld (.t 78) none⟩,
         ⟨none, some 80, .len false (.t 79)⟩,
         ⟨none, some 81, .bin .add (.t 77) (.t 80)⟩,
         ⟨none, some 82, .bslice 1 [.int .i64 0] [(0, 1, (.t 81))]⟩,
         ⟨none, some 83, .app (.t 75) (.t 82) 1 8⟩,
         ⟨none, some 6, .asg (.t 83)⟩])
      (.region [⟨none, some 84, .fld (.t 7) 1⟩,
        ⟨none, some 85, .ld (.t 84) none⟩,
        ⟨none, some 86, .ld (.t 9) (some 4)⟩,
        ⟨none, some 87, .bslice 1 [.int .u8 0, .int .i64 0, .int .i64 0, .int .u64 0] [(0, 4, (.t 86))]⟩,
        ⟨none, some 88, .app (.t 85) (.t 87) 4 32⟩,
        ⟨none, some 89, .fld (.t 7) 1⟩,
        ⟨none, none, .st (.t 89) (.t 88) 1⟩])))))
    (.region [⟨none, some 53, .mov (.t 8)⟩,
      ⟨none, some 54, .bin .add (.t 53) (.c (.int .i64 1))⟩,
      ⟨none, some 8, .asg (.t 54)⟩]))))))
 (.seq (.seq (.region [⟨none, some 10, .asg (.c (.int .i64 0))⟩])
  (.block 2 (.loop (.seq (.seq (.region [⟨none, some 90, .mov (.t 10)⟩,
        ⟨none, some 91, .fld (.t 2) 2⟩,
        ⟨none, some 92, .ld (.t 91) none⟩,
        ⟨none, some 93, .len false (.t 92)⟩,
        ⟨none, some 94, .bin .lss (.t 90) (.t 93)⟩])
     (.cond (.t 94) (.skip)
      (.exit 2)))
    (.seq (.block 3 (.draw (.pure 0 (.pure 1 (.pure 2 (.pure 3 (.pure 4 (.pure 5 (.pure 6 (.pure 7 (.pure 8 (.pure 9 (.alt 10 (.alt 11 (.pure 12 (.alt 13 .nil .stop)) .stop) .stop))))))))))) [(10, 4), (10, 7), (10, 9), (11, 1), (11, 4), (11, 7), (11, 9), (13, 1), (13, 4), (13, 7), (13, 9)] [⟨none, some 97, .fld (.t 7) 2⟩,
        ⟨none, some 98, .ld (.t 97) none⟩,
        ⟨none, some 99, .mov (.t 6)⟩,
        ⟨none, some 100, .fld (.t 2) 2⟩,
        ⟨none, some 101, .ld (.t 100) none⟩,
        ⟨none, some 102, .mov (.t 10)⟩,
        ⟨none, some 103, .idx (.t 101) (.t 102) 1⟩,
        ⟨none, some 104, .ld (.t 103) none⟩,
        ⟨none, some 105, .idx (.t 99) (.t 104) 1⟩,
        ⟨none, some 106, .ld (.t 105) none⟩,
        ⟨none, some 107, .bslice 1 [.int .i64 0] [(0, 1, (.t 106))]⟩,
        ⟨none, some 108, .app (.t 98) (.t 107) 1 8⟩,
        ⟨none, some 109, .fld (.t 7) 2⟩,
        ⟨none, none, .st (.t 109) (.t 108) 1⟩]))
    (.region [⟨none, some 95, .mov (.t 10)⟩,
      ⟨none, some 96, .bin .add (.t 95) (.c (.int .i64 1))⟩,
      ⟨none, some 10, .asg (.t 96)⟩]))))))
 (.seq (.region [⟨none, some 110, .ld (.t 7) (some 3)⟩,
    ⟨none, none, .st (.t 4) (.t 110) 3⟩,
    ⟨none, some 5, .asg (.c (.int .i64 0))⟩])
 (.ret))))))))
abbrev ref09_After.D0 : List Nat := [6, 8, 9, 48, 49, 50, 51, 52, 53, 54, 55, 56, 57, 58, 59, 60, 61, 62, 63, 64, 65, 66, 67, 68, 69, 70, 71, 72, 73, 74, 75, 76, 77, 78, 79, 80, 81, 82, 83, 84, 85, 86, 87, 88, 89]
abbrev ref09_After.D1 : List Nat := [10, 90, 91, 92, 93, 94, 95, 96, 97, 98, 99, 100, 101, 102, 103, 104, 105, 106, 107, 108, 109]
abbrev ref09_After.K0 : List Nat := [6, 8, 9, 48, 49, 50, 51, 52, 53, 54, 55, 56, 57, 58, 59, 60, 61, 62, 63, 64, 65, 66, 67, 68, 69, 70, 71, 72, 73, 74, 75, 76, 77, 78, 79, 80, 81, 82, 83, 84, 85, 86, 87, 88, 89]
abbrev ref09_After.K1 : List Nat := [6, 9, 55, 56, 57, 58, 59, 60, 61, 62, 63, 64, 65, 66, 67, 68, 69, 70, 71, 72, 73, 74, 75, 76, 77, 78, 79, 80, 81, 82, 83, 84, 85, 86, 87, 88, 89]
abbrev ref09_After.K2 : List Nat := [10, 90, 91, 92, 93, 94, 95, 96, 97, 98, 99, 100, 101, 102, 103, 104, 105, 106, 107, 108, 109]
abbrev ref09_After.K3 : List Nat := [97, 98, 99, 100, 101, 102, 103, 104, 105, 106, 107, 108, 109]
theorem ref09_After.k : chkFn Go.Proofs.Tryd.prog 19 111 [.cell 4 (some 3), .tmp 5] ref09_After.c = true := by kernel_rfl

/-- conclave/conclaveref09.Copy: function 20; parameters: api.Prog; results: api.Prog -/
def ref09_Copy.c : ACode :=
 .seq (.region [⟨none, some 1, .box (.t 0)⟩,
    ⟨none, some 2, .alloc [.int .i64 0, .lit (.slice none 0 0), .lit (.slice none 0 0)]⟩])
 (.seq (.region [⟨none, some 3, .bslice 0 [.int .u8 0, .int .i64 0, .int .i64 0, .int .u64 0] []⟩,
    ⟨none, some 4, .fld (.t 1) 1⟩,
    ⟨none, some 5, .ld (.t 4) none⟩,
    ⟨none, some 6, .app (.t 3) (.t 5) 4 32⟩,
    ⟨none, some 7, .fld (.t 1) 1⟩,
    ⟨none, none, .st (.t 7) (.t 6) 1⟩])
 (.seq (.region [⟨none, some 8, .bslice 0 [.int .i64 0] []⟩,
    ⟨none, some 9, .fld (.t 1) 2⟩,
    ⟨none, some 10, .ld (.t 9) none⟩,
    ⟨none, some 11, .app (.t 8) (.t 10) 1 8⟩,
    ⟨none, some 12, .fld (.t 1) 2⟩,
    ⟨none, none, .st (.t 12) (.t 11) 1⟩])
 (.seq (.region [⟨none, some 13, .ld (.t 1) (some 3)⟩,
    ⟨none, none, .st (.t 2) (.t 13) 3⟩])
 (.ret))))
theorem ref09_Copy.k : chkFn Go.Proofs.Tryd.prog 20 14 [.cell 2 (some 3)] ref09_Copy.c = true := by kernel_rfl

end Go.Proofs.YtginchgkbgcimaaDoor.C
