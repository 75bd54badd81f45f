import Derived.Test.YtginchgkbgcimaaDoorAdef
import Derived.Test.YtginchgkbgcimaaDoorProg
import Derived.KernelRfl
namespace Go.Proofs.YtginchgkbgcimaaDoor.C
open Go Go.RowKit Go.Proofs.YtginchgkbgcimaaDoor.AL

/-- conclave/slp.May: function 16; parameters: api.Prog; results: bool -/
def slp_May.c : ACode :=
 .seq (.region [⟨none, some 1, .box (.t 0)⟩,
    ⟨none, some 2, .asg (.c (.bool false))⟩])
 (.seq (.seq (.region [⟨none, some 6, .fld (.t 1) 0⟩,
     ⟨none, some 7, .ld (.t 6) none⟩,
     ⟨none, some 8, .bin .lss (.t 7) (.c (.int .i64 0))⟩,
     ⟨none, some 9, .mov (.t 8)⟩,
     ⟨some (9, false), some 10, .fld (.t 1) 0⟩,
     ⟨some (9, false), some 11, .ld (.t 10) none⟩,
     ⟨some (9, false), some 12, .bin .gtr (.t 11) (.c (.int .i64 64))⟩,
     ⟨none, some 13, .pick (.t 9) (.c (.bool true)) (.t 12)⟩,
     ⟨none, some 14, .mov (.t 13)⟩,
     ⟨some (14, false), some 15, .fld (.t 1) 1⟩,
     ⟨some (14, false), some 16, .ld (.t 15) none⟩,
     ⟨some (14, false), some 17, .len false (.t 16)⟩,
     ⟨some (14, false), some 18, .bin .gtr (.t 17) (.c (.int .i64 256))⟩,
     ⟨none, some 19, .pick (.t 14) (.c (.bool true)) (.t 18)⟩,
     ⟨none, some 20, .mov (.t 19)⟩,
     ⟨some (20, false), some 21, .fld (.t 1) 2⟩,
     ⟨some (20, false), some 22, .ld (.t 21) none⟩,
     ⟨some (20, false), some 23, .len false (.t 22)⟩,
     ⟨some (20, false), some 24, .bin .gtr (.t 23) (.c (.int .i64 64))⟩,
     ⟨none, some 25, .pick (.t 20) (.c (.bool true)) (.t 24)⟩])
  (.cond (.t 25) (.seq (.region [⟨none, some 2, .asg (.c (.bool false))⟩])
   (.ret))
   (.skip)))
 (.seq (.seq (.region [⟨none, some 26, .fld (.t 1) 1⟩,
     ⟨none, some 27, .ld (.t 26) none⟩,
     ⟨none, some 28, .len false (.t 27)⟩,
     ⟨none, some 29, .mov (.c (.int .i64 0))⟩])
  (.block 0 (.loop (.seq (.region [⟨none, some 30, .bin .lss (.t 29) (.t 28)⟩])
    (.seq (.cond (.t 30) (.skip)
      (.exit 0))
    (.seq (.block 1 (.seq (.region [⟨none, some 31, .mov (.t 29)⟩,
         ⟨none, some 32, .idx (.t 27) (.t 29) 4⟩,
         ⟨none, some 33, .ld (.t 32) (some 4)⟩,
         ⟨none, some 4, .alloc [.int .u8 0, .int .i64 0, .int .i64 0, .int .u64 0]⟩,
         ⟨none, some 3, .asg (.t 31)⟩,
         ⟨none, none, .st (.t 4) (.t 33) 4⟩])
      (.seq (.region [⟨none, some 34, .fld (.t 1) 0⟩,
         ⟨none, some 35, .ld (.t 34) none⟩,
         ⟨none, some 36, .mov (.t 3)⟩,
         ⟨none, some 37, .bin .add (.t 35) (.t 36)⟩,
         ⟨none, some 5, .asg (.t 37)⟩])
      (.seq (.region [⟨none, some 38, .fld (.t 4) 0⟩,
         ⟨none, some 39, .ld (.t 38) none⟩])
      (.block 2 (.seq (.seq (.region [⟨none, some 41, .bin .eql (.t 39) (.c (.int .u8 1))⟩,
           ⟨none, some 40, .asg (.t 41)⟩])
        (.cond (.t 40) (.skip)
         (.seq (.region [⟨none, some 42, .bin .eql (.t 39) (.c (.int .u8 2))⟩,
            ⟨none, some 40, .asg (.t 42)⟩])
         (.cond (.t 40) (.skip)
          (.region [⟨none, some 43, .bin .eql (.t 39) (.c (.int .u8 3))⟩,
            ⟨none, some 40, .asg (.t 43)⟩])))))
       (.cond (.t 40) (.seq (.region [⟨none, some 44, .fld (.t 4) 1⟩,
           ⟨none, some 45, .ld (.t 44) none⟩,
           ⟨none, some 46, .bin .lss (.t 45) (.c (.int .i64 0))⟩,
           ⟨none, some 47, .mov (.t 46)⟩,
           ⟨some (47, false), some 48, .fld (.t 4) 1⟩,
           ⟨some (47, false), some 49, .ld (.t 48) none⟩,
           ⟨some (47, false), some 50, .mov (.t 5)⟩,
           ⟨some (47, false), some 51, .bin .geq (.t 49) (.t 50)⟩,
           ⟨none, some 52, .pick (.t 47) (.c (.bool true)) (.t 51)⟩,
           ⟨none, some 53, .mov (.t 52)⟩,
           ⟨some (53, false), some 54, .fld (.t 4) 2⟩,
           ⟨some (53, false), some 55, .ld (.t 54) none⟩,
           ⟨some (53, false), some 56, .bin .lss (.t 55) (.c (.int .i64 0))⟩,
           ⟨none, some 57, .pick (.t 53) (.c (.bool true)) (.t 56)⟩,
           ⟨none, some 58, .mov (.t 57)⟩,
           ⟨some (58, false), some 59, .fld (.t 4) 2⟩,
           ⟨some (58, false), some 60, .ld (.t 59) none⟩,
           ⟨some (58, false), some 61, .mov (.t 5)⟩,
           ⟨some (58, false), some 62, .bin .geq (.t 60) (.t 61)⟩,
           ⟨none, some 63, .pick (.t 58) (.c (.bool true)) (.t 62)⟩,
           ⟨none, some 64, .mov (.t 63)⟩,
           ⟨some (64, false), some 65, .fld (.t 4) 3⟩,
           ⟨some (64, false), some 66, .ld (.t 65) none⟩,
           ⟨some (64, false), some 67, .bin .neq (.t 66) (.c (.int .u64 0))⟩,
           ⟨none, some 68, .pick (.t 64) (.c (.bool true)) (.t 67)⟩])
        (.cond (.t 68) (.seq (.region [⟨none, some 2, .asg (.c (.bool false))⟩])
         (.ret))
         (.skip)))
        (.seq (.region [⟨none, some 70, .bin .eql (.t 39) (.c (.int .u8 4))⟩,
           ⟨none, some 69, .asg (.t 70)⟩])
        (.cond (.t 69) (.seq (.region [⟨none, some 71, .fld (.t 4) 1⟩,
            ⟨none, some 72, .ld (.t 71) none⟩,
            ⟨none, some 73, .bin .neq (.t 72) (.c (.int .i64 0))⟩,
            ⟨none, some 74, .mov (.t 73)⟩,
            ⟨some (74, false), some 75, .fld (.t 4) 2⟩,
            ⟨some (74, false), some 76, .ld (.t 75) none⟩,
            ⟨some (74, false), some 77, .bin .neq (.t 76) (.c (.int .i64 0))⟩,
            ⟨none, some 78, .pick (.t 74) (.c (.bool true)) (.t 77)⟩])
         (.cond (.t 78) (.seq (.region [⟨none, some 2, .asg (.c (.bool false))⟩])
          (.ret))
          (.skip)))
         (.seq (.region [⟨none, some 2, .asg (.c (.bool false))⟩])
         (.ret)))))))))))
    (.region [⟨none, some 79, .bin .add (.t 29) (.c (.int .i64 1))⟩,
      ⟨none, some 29, .mov (.t 79)⟩])))))))
 (.seq (.region [⟨none, some 80, .fld (.t 1) 2⟩,
    ⟨none, some 81, .ld (.t 80) none⟩,
    ⟨none, some 82, .mkfn (.func 40) [] [(.t 1)]⟩,
    ⟨none, some 83, .call 39 [(.t 81), (.t 82)]⟩,
    ⟨none, some 84, .not (.t 83)⟩,
    ⟨none, some 2, .asg (.t 84)⟩])
 (.ret))))
abbrev slp_May.D0 : List Nat := [2, 3, 4, 5, 29, 30, 31, 32, 33, 34, 35, 36, 37, 38, 39, 40, 41, 42, 43, 44, 45, 46, 47, 48, 49, 50, 51, 52, 53, 54, 55, 56, 57, 58, 59, 60, 61, 62, 63, 64, 65, 66, 67, 68, 69, 70, 71, 72, 73, 74, 75, 76, 77, 78, 79]
abbrev slp_May.K0 : List Nat := [2, 3, 4, 5, 29, 30, 31, 32, 33, 34, 35, 36, 37, 38, 39, 40, 41, 42, 43, 44, 45, 46, 47, 48, 49, 50, 51, 52, 53, 54, 55, 56, 57, 58, 59, 60, 61, 62, 63, 64, 65, 66, 67, 68, 69, 70, 71, 72, 73, 74, 75, 76, 77, 78, 79]
abbrev slp_May.K1 : List Nat := [2, 3, 4, 5, 31, 32, 33, 34, 35, 36, 37, 38, 39, 40, 41, 42, 43, 44, 45, 46, 47, 48, 49, 50, 51, 52, 53, 54, 55, 56, 57, 58, 59, 60, 61, 62, 63, 64, 65, 66, 67, 68, 69, 70, 71, 72, 73, 74, 75, 76, 77, 78]
abbrev slp_May.K2 : List Nat := [2, 40, 41, 42, 43, 44, 45, 46, 47, 48, 49, 50, 51, 52, 53, 54, 55, 56, 57, 58, 59, 60, 61, 62, 63, 64, 65, 66, 67, 68, 69, 70, 71, 72, 73, 74, 75, 76, 77, 78]
theorem slp_May.k : chkFn Go.Proofs.Tryd.prog 16 85 [.tmp 2] slp_May.c = true := by kernel_rfl

/-- conclave/slp.May$1: function 40; parameters: int; results: bool -/
def slp_May_1.c : ACode :=
 .seq (.region [⟨none, some 3, .asg (.c (.bool false))⟩])
 (.seq (.region [⟨none, some 4, .mov (.t 0)⟩,
    ⟨none, some 5, .bin .lss (.t 4) (.c (.int .i64 0))⟩,
    ⟨none, some 6, .mov (.t 5)⟩,
    ⟨some (6, false), some 7, .mov (.t 0)⟩,
    ⟨some (6, false), some 8, .fld (.t 1) 0⟩,
    ⟨some (6, false), some 9, .ld (.t 8) none⟩,
    ⟨some (6, false), some 10, .fld (.t 1) 1⟩,
    ⟨some (6, false), some 11, .ld (.t 10) none⟩,
    ⟨some (6, false), some 12, .len false (.t 11)⟩,
    ⟨some (6, false), some 13, .bin .add (.t 9) (.t 12)⟩,
    ⟨some (6, false), some 14, .bin .geq (.t 7) (.t 13)⟩,
    ⟨none, some 15, .pick (.t 6) (.c (.bool true)) (.t 14)⟩,
    ⟨none, some 3, .asg (.t 15)⟩])
 (.ret))
theorem slp_May_1.k : chkFn Go.Proofs.Tryd.prog 40 16 [.tmp 3] slp_May_1.c = true := by kernel_rfl

/-- slices.ContainsFunc[[]int,int]: function 39; parameters: []int, func(int) bool; results: bool -/
def slices_ContainsFunc_int_int.c : ACode :=
 .seq (.region [⟨none, some 4, .asg (.c (.bool false))⟩])
 (.seq (.region [⟨none, some 5, .mov (.t 0)⟩,
    ⟨none, some 6, .mov (.t 1)⟩,
    ⟨none, some 7, .call 55 [(.t 5), (.t 6)]⟩,
    ⟨none, some 8, .bin .geq (.t 7) (.c (.int .i64 0))⟩,
    ⟨none, some 4, .asg (.t 8)⟩])
 (.ret))
theorem slices_ContainsFunc_int_int.k : chkFn Go.Proofs.Tryd.prog 39 9 [.tmp 4] slices_ContainsFunc_int_int.c = true := by kernel_rfl

/-- slices.IndexFunc[[]int,int]: function 55; parameters: []int, func(int) bool; results: int -/
def slices_IndexFunc_int_int.c : ACode :=
 .seq (.region [⟨none, some 4, .asg (.c (.int .i64 0))⟩])
 (.seq (.seq (.region [⟨none, some 6, .mov (.t 0)⟩,
     ⟨none, some 7, .len false (.t 6)⟩,
     ⟨none, some 8, .mov (.c (.int .i64 0))⟩])
  (.block 0 (.loop (.seq (.region [⟨none, some 9, .bin .lss (.t 8) (.t 7)⟩])
    (.seq (.cond (.t 9) (.skip)
      (.exit 0))
    (.seq (.block 1 (.seq (.region [⟨none, some 10, .mov (.t 8)⟩,
         ⟨none, some 5, .asg (.t 10)⟩])
      (.seq (.region [⟨none, some 11, .mov (.t 1)⟩,
         ⟨none, some 12, .mov (.t 0)⟩,
         ⟨none, some 13, .mov (.t 5)⟩,
         ⟨none, some 14, .idx (.t 12) (.t 13) 1⟩,
         ⟨none, some 15, .ld (.t 14) none⟩,
         ⟨none, some 16, .callv (.t 11) [(.t 15)]⟩])
      (.cond (.t 16) (.seq (.region [⟨none, some 17, .mov (.t 5)⟩,
          ⟨none, some 4, .asg (.t 17)⟩])
       (.ret))
       (.skip)))))
    (.region [⟨none, some 18, .bin .add (.t 8) (.c (.int .i64 1))⟩,
      ⟨none, some 8, .mov (.t 18)⟩])))))))
 (.seq (.region [⟨none, some 4, .asg (.c (.int .i64 (-1)))⟩])
 (.ret)))
abbrev slices_IndexFunc_int_int.D0 : List Nat := [4, 5, 8, 9, 10, 11, 12, 13, 14, 15, 16, 17, 18]
abbrev slices_IndexFunc_int_int.K0 : List Nat := [4, 5, 8, 9, 10, 11, 12, 13, 14, 15, 16, 17, 18]
abbrev slices_IndexFunc_int_int.K1 : List Nat := [4, 5, 10, 11, 12, 13, 14, 15, 16, 17]
theorem slices_IndexFunc_int_int.k : chkFn Go.Proofs.Tryd.prog 55 19 [.tmp 4] slices_IndexFunc_int_int.c = true := by kernel_rfl

/-- conclave/slp.Same: function 17; parameters: api.Prog, api.Prog; results: bool -/
def slp_Same.c : ACode :=
 .seq (.region [⟨none, some 2, .box (.t 0)⟩,
    ⟨none, some 3, .box (.t 1)⟩,
    ⟨none, some 4, .asg (.c (.bool false))⟩])
 (.seq (.region [⟨none, some 5, .fld (.t 2) 0⟩,
    ⟨none, some 6, .ld (.t 5) none⟩,
    ⟨none, some 7, .fld (.t 3) 0⟩,
    ⟨none, some 8, .ld (.t 7) none⟩,
    ⟨none, some 9, .bin .eql (.t 6) (.t 8)⟩,
    ⟨none, some 10, .mov (.t 9)⟩,
    ⟨some (10, true), some 11, .fld (.t 2) 1⟩,
    ⟨some (10, true), some 12, .ld (.t 11) none⟩,
    ⟨some (10, true), some 13, .fld (.t 3) 1⟩,
    ⟨some (10, true), some 14, .ld (.t 13) none⟩,
    ⟨some (10, true), some 15, .call 41 [(.t 12), (.t 14)]⟩,
    ⟨none, some 16, .pick (.t 10) (.t 15) (.c (.bool false))⟩,
    ⟨none, some 17, .mov (.t 16)⟩,
    ⟨some (17, true), some 18, .fld (.t 2) 2⟩,
    ⟨some (17, true), some 19, .ld (.t 18) none⟩,
    ⟨some (17, true), some 20, .fld (.t 3) 2⟩,
    ⟨some (17, true), some 21, .ld (.t 20) none⟩,
    ⟨some (17, true), some 22, .call 42 [(.t 19), (.t 21)]⟩,
    ⟨none, some 23, .pick (.t 17) (.t 22) (.c (.bool false))⟩,
    ⟨none, some 4, .asg (.t 23)⟩])
 (.ret))
theorem slp_Same.k : chkFn Go.Proofs.Tryd.prog 17 24 [.tmp 4] slp_Same.c = true := by kernel_rfl

/-- slices.Equal[[]conclave/api.Op,conclave/api.Op]: function 41; parameters: []api.Op, []api.Op; results: bool -/
def slices_Equal_api_Op_api_Op.c : ACode :=
 .seq (.region [⟨none, some 4, .asg (.c (.bool false))⟩])
 (.seq (.seq (.region [⟨none, some 6, .mov (.t 0)⟩,
     ⟨none, some 7, .len false (.t 6)⟩,
     ⟨none, some 8, .mov (.t 1)⟩,
     ⟨none, some 9, .len false (.t 8)⟩,
     ⟨none, some 10, .bin .neq (.t 7) (.t 9)⟩])
  (.cond (.t 10) (.seq (.region [⟨none, some 4, .asg (.c (.bool false))⟩])
   (.ret))
   (.skip)))
 (.seq (.seq (.region [⟨none, some 11, .mov (.t 0)⟩,
     ⟨none, some 12, .len false (.t 11)⟩,
     ⟨none, some 13, .mov (.c (.int .i64 0))⟩])
  (.block 0 (.loop (.seq (.region [⟨none, some 14, .bin .lss (.t 13) (.t 12)⟩])
    (.seq (.cond (.t 14) (.skip)
      (.exit 0))
    (.seq (.block 1 (.seq (.region [⟨none, some 15, .mov (.t 13)⟩,
         ⟨none, some 5, .asg (.t 15)⟩])
      (.seq (.draw (.pure 0 (.pure 1 (.pure 2 (.pure 3 (.pure 4 (.pure 5 (.pure 6 (.pure 7 (.pure 8 .nil))))))))) [] [⟨none, some 16, .mov (.t 0)⟩,
         ⟨none, some 17, .mov (.t 5)⟩,
         ⟨none, some 18, .idx (.t 16) (.t 17) 4⟩,
         ⟨none, some 19, .ld (.t 18) (some 4)⟩,
         ⟨none, some 20, .mov (.t 1)⟩,
         ⟨none, some 21, .mov (.t 5)⟩,
         ⟨none, some 22, .idx (.t 20) (.t 21) 4⟩,
         ⟨none, some 23, .ld (.t 22) (some 4)⟩,
         ⟨none, some 24, .eq (.flat [1, 1, 1, 1]) true (.t 19) (.t 23)⟩])
      (.cond (.t 24) (.seq (.region [⟨none, some 4, .asg (.c (.bool false))⟩])
       (.ret))
       (.skip)))))
    (.region [⟨none, some 25, .bin .add (.t 13) (.c (.int .i64 1))⟩,
      ⟨none, some 13, .mov (.t 25)⟩])))))))
 (.seq (.region [⟨none, some 4, .asg (.c (.bool true))⟩])
 (.ret))))
abbrev slices_Equal_api_Op_api_Op.D0 : List Nat := [4, 5, 13, 14, 15, 16, 17, 18, 19, 20, 21, 22, 23, 24, 25]
abbrev slices_Equal_api_Op_api_Op.K0 : List Nat := [4, 5, 13, 14, 15, 16, 17, 18, 19, 20, 21, 22, 23, 24, 25]
abbrev slices_Equal_api_Op_api_Op.K1 : List Nat := [4, 5, 15, 16, 17, 18, 19, 20, 21, 22, 23, 24]
theorem slices_Equal_api_Op_api_Op.k : chkFn Go.Proofs.Tryd.prog 41 26 [.tmp 4] slices_Equal_api_Op_api_Op.c = true := by kernel_rfl

/-- slices.Equal[[]int,int]: function 42; parameters: []int, []int; results: bool -/
def slices_Equal_int_int.c : ACode :=
 .seq (.region [⟨none, some 4, .asg (.c (.bool false))⟩])
 (.seq (.seq (.region [⟨none, some 6, .mov (.t 0)⟩,
     ⟨none, some 7, .len false (.t 6)⟩,
     ⟨none, some 8, .mov (.t 1)⟩,
     ⟨none, some 9, .len false (.t 8)⟩,
     ⟨none, some 10, .bin .neq (.t 7) (.t 9)⟩])
  (.cond (.t 10) (.seq (.region [⟨none, some 4, .asg (.c (.bool false))⟩])
   (.ret))
   (.skip)))
 (.seq (.seq (.region [⟨none, some 11, .mov (.t 0)⟩,
     ⟨none, some 12, .len false (.t 11)⟩,
     ⟨none, some 13, .mov (.c (.int .i64 0))⟩])
  (.block 0 (.loop (.seq (.region [⟨none, some 14, .bin .lss (.t 13) (.t 12)⟩])
    (.seq (.cond (.t 14) (.skip)
      (.exit 0))
    (.seq (.block 1 (.seq (.region [⟨none, some 15, .mov (.t 13)⟩,
         ⟨none, some 5, .asg (.t 15)⟩])
      (.seq (.draw (.pure 0 (.pure 1 (.pure 2 (.pure 3 (.pure 4 (.pure 5 (.pure 6 (.pure 7 (.pure 8 .nil))))))))) [] [⟨none, some 16, .mov (.t 0)⟩,
         ⟨none, some 17, .mov (.t 5)⟩,
         ⟨none, some 18, .idx (.t 16) (.t 17) 1⟩,
         ⟨none, some 19, .ld (.t 18) none⟩,
         ⟨none, some 20, .mov (.t 1)⟩,
         ⟨none, some 21, .mov (.t 5)⟩,
         ⟨none, some 22, .idx (.t 20) (.t 21) 1⟩,
         ⟨none, some 23, .ld (.t 22) none⟩,
         ⟨none, some 24, .bin .neq (.t 19) (.t 23)⟩])
      (.cond (.t 24) (.seq (.region [⟨none, some 4, .asg (.c (.bool false))⟩])
       (.ret))
       (.skip)))))
    (.region [⟨none, some 25, .bin .add (.t 13) (.c (.int .i64 1))⟩,
      ⟨none, some 13, .mov (.t 25)⟩])))))))
 (.seq (.region [⟨none, some 4, .asg (.c (.bool true))⟩])
 (.ret))))
abbrev slices_Equal_int_int.D0 : List Nat := [4, 5, 13, 14, 15, 16, 17, 18, 19, 20, 21, 22, 23, 24, 25]
abbrev slices_Equal_int_int.K0 : List Nat := [4, 5, 13, 14, 15, 16, 17, 18, 19, 20, 21, 22, 23, 24, 25]
abbrev slices_Equal_int_int.K1 : List Nat := [4, 5, 15, 16, 17, 18, 19, 20, 21, 22, 23, 24]
theorem slices_Equal_int_int.k : chkFn Go.Proofs.Tryd.prog 42 26 [.tmp 4] slices_Equal_int_int.c = true := by kernel_rfl

/-- conclave/slp.After: function 18; parameters: api.Prog, api.Prog; results: api.Prog, api.Errno -/
def slp_After.c : ACode :=
 .seq (.region [⟨none, some 2, .box (.t 0)⟩,
    ⟨none, some 3, .box (.t 1)⟩,
    ⟨none, some 4, .alloc [.int .i64 0, .lit (.slice none 0 0), .lit (.slice none 0 0)]⟩,
    ⟨none, some 5, .asg (.c (.int .i64 0))⟩])
 (.seq (.block 0 (.seq (.region [⟨none, some 13, .ld (.t 2) (some 3)⟩,
      ⟨none, some 14, .call 16 [(.t 13)]⟩,
      ⟨none, some 15, .not (.t 14)⟩,
      ⟨none, some 16, .mov (.t 15)⟩,
      ⟨some (16, false), some 17, .ld (.t 3) (some 3)⟩,
      ⟨some (16, false), some 18, .call 16 [(.t 17)]⟩,
      ⟨some (16, false), some 19, .not (.t 18)⟩,
      ⟨none, some 20, .pick (.t 16) (.c (.bool true)) (.t 19)⟩,
      ⟨none, some 21, .mov (.t 20)⟩,
      ⟨some (21, false), some 22, .fld (.t 3) 2⟩,
      ⟨some (21, false), some 23, .ld (.t 22) none⟩,
      ⟨some (21, false), some 24, .len false (.t 23)⟩,
      ⟨some (21, false), some 25, .fld (.t 2) 0⟩,
      ⟨some (21, false), some 26, .ld (.t 25) none⟩,
      ⟨some (21, false), some 27, .bin .neq (.t 24) (.t 26)⟩,
      ⟨none, some 28, .pick (.t 21) (.c (.bool true)) (.t 27)⟩,
      ⟨none, some 12, .asg (.t 28)⟩])
   (.cond (.t 12) (.seq (.region [⟨none, some 29, .build [.int .i64 0, .lit (.slice none 0 0), .lit (.slice none 0 0)] []⟩,
       ⟨none, none, .st (.t 4) (.t 29) 3⟩,
       ⟨none, some 5, .asg (.c (.int .i64 2))⟩])
    (.ret))
    (.seq (.region [⟨none, some 31, .fld (.t 2) 1⟩,
       ⟨none, some 32, .ld (.t 31) none⟩,
       ⟨none, some 33, .len false (.t 32)⟩,
       ⟨none, some 34, .fld (.t 3) 1⟩,
       ⟨none, some 35, .ld (.t 34) none⟩,
       ⟨none, some 36, .len false (.t 35)⟩,
       ⟨none, some 37, .bin .add (.t 33) (.t 36)⟩,
       ⟨none, some 38, .bin .gtr (.t 37) (.c (.int .i64 256))⟩,
       ⟨none, some 30, .asg (.t 38)⟩])
    (.cond (.t 30) (.seq (.region [⟨none, some 39, .build [.int .i64 0, .lit (.slice none 0 0), .lit (.slice none 0 0)] []⟩,
        ⟨none, none, .st (.t 4) (.t 39) 3⟩,
        ⟨none, some 5, .asg (.c (.int .i64 4))⟩])
     (.ret))
     (.skip))))))
 (.seq (.draw (.pure 0 (.pure 1 (.pure 2 (.pure 3 (.alt 4 (.pure 5 (.alt 6 (.alt 7 .nil .stop) .stop)) (.alt 6 (.alt 4 (.pure 5 (.alt 7 .nil .stop)) .stop) .stop)))))) [(4, 3), (7, 1), (7, 3)] [⟨none, some 40, .fld (.t 3) 0⟩,
    ⟨none, some 41, .ld (.t 40) none⟩,
    ⟨none, some 42, .fld (.t 3) 1⟩,
    ⟨none, some 43, .ld (.t 42) none⟩,
    ⟨none, some 44, .call 43 [(.t 43)]⟩,
    ⟨none, some 45, .build [.int .i64 0, .lit (.slice none 0 0), .lit (.slice none 0 0)] [(0, 1, (.t 41)), (1, 1, (.t 44))]⟩,
    ⟨none, some 6, .alloc [.int .i64 0, .lit (.slice none 0 0), .lit (.slice none 0 0)]⟩,
    ⟨none, none, .st (.t 6) (.t 45) 3⟩])
 (.seq (.region [⟨none, some 46, .mkfn (.func 44) [] [(.t 2), (.t 3)]⟩,
    ⟨none, some 7, .asg (.t 46)⟩])
 (.seq (.seq (.region [⟨none, some 47, .fld (.t 2) 1⟩,
     ⟨none, some 48, .ld (.t 47) none⟩,
     ⟨none, some 49, .len false (.t 48)⟩,
     ⟨none, some 50, .mov (.c (.int .i64 0))⟩])
  (.block 1 (.loop (.seq (.region [⟨none, some 51, .bin .lss (.t 50) (.t 49)⟩])
    (.seq (.cond (.t 51) (.skip)
      (.exit 1))
    (.seq (.block 2 (.seq (.region [⟨none, some 52, .idx (.t 48) (.t 50) 4⟩,
         ⟨none, some 53, .ld (.t 52) (some 4)⟩,
         ⟨none, some 9, .alloc [.int .u8 0, .int .i64 0, .int .i64 0, .int .u64 0]⟩,
         ⟨none, none, .st (.t 9) (.t 53) 4⟩])
      (.seq (.seq (.region [⟨none, some 54, .fld (.t 9) 0⟩,
          ⟨none, some 55, .ld (.t 54) none⟩,
          ⟨none, some 56, .bin .neq (.t 55) (.c (.int .u8 4))⟩])
       (.cond (.t 56) (.draw (.pure 0 (.pure 1 (.pure 2 (.pure 4 (.pure 5 (.pure 6 (.alt 3 (.pure 8 (.alt 7 (.alt 9 (.pure 10 (.alt 11 .nil .stop)) .stop) .stop)) .stop))))))) [(3, 2), (7, 2), (7, 6), (9, 2), (9, 6), (11, 2), (11, 6)] [⟨none, some 57, .mov (.t 7)⟩,
          ⟨none, some 58, .fld (.t 9) 1⟩,
          ⟨none, some 59, .ld (.t 58) none⟩,
          ⟨none, some 60, .callv (.t 57) [(.t 59)]⟩,
          ⟨none, some 61, .mov (.t 7)⟩,
          ⟨none, some 62, .fld (.t 9) 2⟩,
          ⟨none, some 63, .ld (.t 62) none⟩,
          ⟨none, some 64, .callv (.t 61) [(.t 63)]⟩,
          ⟨none, some 65, .fld (.t 9) 1⟩,
          ⟨none, none, .st (.t 65) (.t 60) 1⟩,
          ⟨none, some 66, .fld (.t 9) 2⟩,
          ⟨none, none, .st (.t 66) (.t 64) 1⟩])
        (.skip)))
      (.region [⟨none, some 67, .fld (.t 6) 1⟩,
        ⟨none, some 68, .ld (.t 67) none⟩,
        ⟨none, some 69, .ld (.t 9) (some 4)⟩,
        ⟨none, some 70, .bslice 1 [.int .u8 0, .int .i64 0, .int .i64 0, .int .u64 0] [(0, 4, (.t 69))]⟩,
        ⟨none, some 71, .app (.t 68) (.t 70) 4 32⟩,
        ⟨none, some 72, .fld (.t 6) 1⟩,
        ⟨none, none, .st (.t 72) (.t 71) 1⟩]))))
    (.region [⟨none, some 73, .bin .add (.t 50) (.c (.int .i64 1))⟩,
      ⟨none, some 50, .mov (.t 73)⟩])))))))
 (.seq (.seq (.region [⟨none, some 74, .fld (.t 2) 2⟩,
     ⟨none, some 75, .ld (.t 74) none⟩,
     ⟨none, some 76, .len false (.t 75)⟩,
     ⟨none, some 77, .mov (.c (.int .i64 0))⟩])
  (.block 3 (.loop (.seq (.region [⟨none, some 78, .bin .lss (.t 77) (.t 76)⟩])
    (.seq (.cond (.t 78) (.skip)
      (.exit 3))
    (.seq (.block 4 (.seq (.region [⟨none, some 79, .idx (.t 75) (.t 77) 1⟩,
         ⟨none, some 80, .ld (.t 79) none⟩,
         ⟨none, some 11, .asg (.t 80)⟩])
      (.draw (.pure 0 (.pure 1 (.pure 2 (.pure 3 (.alt 4 (.alt 5 (.alt 6 (.pure 7 (.alt 8 .nil .stop)) .stop) .stop) .stop))))) [(6, 1), (8, 1)] [⟨none, some 81, .fld (.t 6) 2⟩,
        ⟨none, some 82, .ld (.t 81) none⟩,
        ⟨none, some 83, .mov (.t 7)⟩,
        ⟨none, some 84, .mov (.t 11)⟩,
        ⟨none, some 85, .callv (.t 83) [(.t 84)]⟩,
        ⟨none, some 86, .bslice 1 [.int .i64 0] [(0, 1, (.t 85))]⟩,
        ⟨none, some 87, .app (.t 82) (.t 86) 1 8⟩,
        ⟨none, some 88, .fld (.t 6) 2⟩,
        ⟨none, none, .st (.t 88) (.t 87) 1⟩])))
    (.region [⟨none, some 89, .bin .add (.t 77) (.c (.int .i64 1))⟩,
      ⟨none, some 77, .mov (.t 89)⟩])))))))
 (.seq (.region [⟨none, some 90, .ld (.t 6) (some 3)⟩,
    ⟨none, none, .st (.t 4) (.t 90) 3⟩,
    ⟨none, some 5, .asg (.c (.int .i64 0))⟩])
 (.ret)))))))
abbrev slp_After.D0 : List Nat := [9, 50, 51, 52, 53, 54, 55, 56, 57, 58, 59, 60, 61, 62, 63, 64, 65, 66, 67, 68, 69, 70, 71, 72, 73]
abbrev slp_After.D1 : List Nat := [11, 77, 78, 79, 80, 81, 82, 83, 84, 85, 86, 87, 88, 89]
abbrev slp_After.K0 : List Nat := [5, 12, 13, 14, 15, 16, 17, 18, 19, 20, 21, 22, 23, 24, 25, 26, 27, 28, 29, 30, 31, 32, 33, 34, 35, 36, 37, 38, 39]
abbrev slp_After.K1 : List Nat := [9, 50, 51, 52, 53, 54, 55, 56, 57, 58, 59, 60, 61, 62, 63, 64, 65, 66, 67, 68, 69, 70, 71, 72, 73]
abbrev slp_After.K2 : List Nat := [9, 52, 53, 54, 55, 56, 57, 58, 59, 60, 61, 62, 63, 64, 65, 66, 67, 68, 69, 70, 71, 72]
abbrev slp_After.K3 : List Nat := [11, 77, 78, 79, 80, 81, 82, 83, 84, 85, 86, 87, 88, 89]
abbrev slp_After.K4 : List Nat := [11, 79, 80, 81, 82, 83, 84, 85, 86, 87, 88]
theorem slp_After.k : chkFn Go.Proofs.Tryd.prog 18 91 [.cell 4 (some 3), .tmp 5] slp_After.c = true := by kernel_rfl

/-- conclave/slp.After$1: function 44; parameters: int; results: int -/
def slp_After_1.c : ACode :=
 .seq (.region [⟨none, some 4, .asg (.c (.int .i64 0))⟩])
 (.seq (.seq (.region [⟨none, some 5, .mov (.t 0)⟩,
     ⟨none, some 6, .fld (.t 1) 0⟩,
     ⟨none, some 7, .ld (.t 6) none⟩,
     ⟨none, some 8, .bin .lss (.t 5) (.t 7)⟩])
  (.cond (.t 8) (.seq (.region [⟨none, some 9, .fld (.t 2) 2⟩,
      ⟨none, some 10, .ld (.t 9) none⟩,
      ⟨none, some 11, .mov (.t 0)⟩,
      ⟨none, some 12, .idx (.t 10) (.t 11) 1⟩,
      ⟨none, some 13, .ld (.t 12) none⟩,
      ⟨none, some 4, .asg (.t 13)⟩])
   (.ret))
   (.skip)))
 (.seq (.region [⟨none, some 14, .mov (.t 0)⟩,
    ⟨none, some 15, .fld (.t 1) 0⟩,
    ⟨none, some 16, .ld (.t 15) none⟩,
    ⟨none, some 17, .bin .sub (.t 14) (.t 16)⟩,
    ⟨none, some 18, .fld (.t 2) 0⟩,
    ⟨none, some 19, .ld (.t 18) none⟩,
    ⟨none, some 20, .bin .add (.t 17) (.t 19)⟩,
    ⟨none, some 21, .fld (.t 2) 1⟩,
    ⟨none, some 22, .ld (.t 21) none⟩,
    ⟨none, some 23, .len false (.t 22)⟩,
    ⟨none, some 24, .bin .add (.t 20) (.t 23)⟩,
    ⟨none, some 4, .asg (.t 24)⟩])
 (.ret)))
theorem slp_After_1.k : chkFn Go.Proofs.Tryd.prog 44 25 [.tmp 4] slp_After_1.c = true := by kernel_rfl

/-- slices.Clone[[]conclave/api.Op,conclave/api.Op]: function 43; parameters: []api.Op; results: []api.Op -/
def slices_Clone_api_Op_api_Op.c : ACode :=
 .seq (.region [⟨none, some 2, .asg (.c (.lit (.slice none 0 0)))⟩])
 (.seq (.seq (.region [⟨none, some 3, .mov (.t 0)⟩,
     ⟨none, some 4, .eq .slice false (.t 3) (.c (.lit (.slice none 0 0)))⟩])
  (.cond (.t 4) (.seq (.region [⟨none, some 2, .asg (.c (.lit (.slice none 0 0)))⟩])
   (.ret))
   (.skip)))
 (.seq (.region [⟨none, some 5, .bslice 0 [.int .u8 0, .int .i64 0, .int .i64 0, .int .u64 0] []⟩,
    ⟨none, some 6, .mov (.t 0)⟩,
    ⟨none, some 7, .app (.t 5) (.t 6) 4 32⟩,
    ⟨none, some 2, .asg (.t 7)⟩])
 (.ret)))
theorem slices_Clone_api_Op_api_Op.k : chkFn Go.Proofs.Tryd.prog 43 8 [.tmp 2] slices_Clone_api_Op_api_Op.c = true := by kernel_rfl

end Go.Proofs.YtginchgkbgcimaaDoor.C
