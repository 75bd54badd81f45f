import Derived.Test.YtbalpmdoeikkbaaAwalk
import Derived.Test.YtbalpmdoeikkbaaProg
import Derived.KernelRfl
namespace Go.Proofs.Ytbalpmdoeikkbaa.C
open Go Go.RowKit Go.Proofs.Ytbalpmdoeikkbaa.AL

/-- conclave/replan.Everybody: function 12; parameters: api.Plan; results: []int, api.Errno -/
def replan_Everybody.c : ACode :=
 .seq (.region [⟨none, some 1, .box (.t 0)⟩,
    ⟨none, some 2, .asg (.c (.lit (.slice none 0 0)))⟩,
    ⟨none, some 3, .asg (.c (.int .i64 0))⟩])
 (.seq (.seq (.region [⟨none, some 6, .ld (.t 1) (some 8)⟩,
     ⟨none, some 7, .call 19 [(.t 6)]⟩,
     ⟨none, some 8, .not (.t 7)⟩])
  (.cond (.t 8) (.seq (.region [⟨none, some 2, .asg (.c (.lit (.slice none 0 0)))⟩,
      ⟨none, some 3, .asg (.c (.int .i64 2))⟩])
   (.ret))
   (.skip)))
 (.seq (.region [⟨none, some 9, .fld (.t 1) 1⟩,
    ⟨none, some 10, .ld (.t 9) none⟩,
    ⟨none, some 11, .mkslice 8 [.int .i64 0] (.t 10) (.t 10)⟩,
    ⟨none, some 4, .asg (.t 11)⟩])
 (.seq (.seq (.region [⟨none, some 12, .mov (.t 4)⟩,
     ⟨none, some 13, .len false (.t 12)⟩,
     ⟨none, some 14, .mov (.c (.int .i64 0))⟩])
  (.block 0 (.loop (.seq (.region [⟨none, some 15, .bin .lss (.t 14) (.t 13)⟩])
    (.seq (.cond (.t 15) (.skip)
      (.exit 0))
    (.seq (.block 1 (.seq (.region [⟨none, some 16, .mov (.t 14)⟩,
         ⟨none, some 5, .asg (.t 16)⟩])
      (.region [⟨none, some 17, .mov (.t 4)⟩,
        ⟨none, some 18, .mov (.t 5)⟩,
        ⟨none, some 19, .mov (.t 5)⟩,
        ⟨none, some 20, .idx (.t 17) (.t 18) 1⟩,
        ⟨none, none, .st (.t 20) (.t 19) 1⟩])))
    (.region [⟨none, some 21, .bin .add (.t 14) (.c (.int .i64 1))⟩,
      ⟨none, some 14, .mov (.t 21)⟩])))))))
 (.seq (.region [⟨none, some 22, .mov (.t 4)⟩,
    ⟨none, some 2, .asg (.t 22)⟩,
    ⟨none, some 3, .asg (.c (.int .i64 0))⟩])
 (.ret)))))
abbrev replan_Everybody.D0 : List Nat := [5, 14, 15, 16, 17, 18, 19, 20, 21]
theorem replan_Everybody.k : chkFn Go.Proofs.Try.prog 12 23 [.tmp 2, .tmp 3] replan_Everybody.c = true := by kernel_rfl

/-- conclave/replan.may: function 20; parameters: api.Plan, []int; results: bool -/
def replan_may.c : ACode :=
 .seq (.region [⟨none, some 2, .box (.t 0)⟩,
    ⟨none, some 4, .asg (.c (.bool false))⟩])
 (.seq (.region [⟨none, some 5, .asg (.c (.int .i64 (-1)))⟩])
 (.seq (.seq (.region [⟨none, some 8, .mov (.t 1)⟩,
     ⟨none, some 9, .len false (.t 8)⟩,
     ⟨none, some 10, .mov (.c (.int .i64 0))⟩])
  (.block 0 (.loop (.seq (.region [⟨none, some 11, .bin .lss (.t 10) (.t 9)⟩])
    (.seq (.cond (.t 11) (.skip)
      (.exit 0))
    (.seq (.block 1 (.seq (.region [⟨none, some 12, .idx (.t 8) (.t 10) 1⟩,
         ⟨none, some 13, .ld (.t 12) none⟩,
         ⟨none, some 7, .asg (.t 13)⟩])
      (.seq (.seq (.region [⟨none, some 14, .mov (.t 7)⟩,
          ⟨none, some 15, .mov (.t 5)⟩,
          ⟨none, some 16, .bin .leq (.t 14) (.t 15)⟩,
          ⟨none, some 17, .mov (.t 16)⟩,
          ⟨some (17, false), some 18, .mov (.t 7)⟩,
          ⟨some (17, false), some 19, .bin .geq (.t 18) (.c (.int .i64 64))⟩,
          ⟨none, some 20, .pick (.t 17) (.c (.bool true)) (.t 19)⟩])
       (.cond (.t 20) (.seq (.region [⟨none, some 4, .asg (.c (.bool false))⟩])
        (.ret))
        (.skip)))
      (.region [⟨none, some 21, .mov (.t 7)⟩,
        ⟨none, some 5, .asg (.t 21)⟩]))))
    (.region [⟨none, some 22, .bin .add (.t 10) (.c (.int .i64 1))⟩,
      ⟨none, some 10, .mov (.t 22)⟩])))))))
 (.seq (.region [⟨none, some 23, .mov (.t 1)⟩,
    ⟨none, some 24, .len false (.t 23)⟩,
    ⟨none, some 25, .fld (.t 2) 1⟩,
    ⟨none, some 26, .ld (.t 25) none⟩,
    ⟨none, some 27, .bin .eql (.t 24) (.t 26)⟩,
    ⟨none, some 4, .asg (.t 27)⟩])
 (.ret))))
abbrev replan_may.D0 : List Nat := [4, 5, 7, 10, 11, 12, 13, 14, 15, 16, 17, 18, 19, 20, 21, 22]
theorem replan_may.k : chkFn Go.Proofs.Try.prog 20 28 [.tmp 4] replan_may.c = true := by kernel_rfl

/-- conclave/replan.Exclude: function 8; parameters: api.Plan, []int, []int; results: api.Plan, []int, api.Errno -/
def replan_Exclude.c : ACode :=
 .seq (.region [⟨none, some 3, .box (.t 0)⟩,
    ⟨none, some 6, .alloc [.int .u8 0, .int .i64 0, .int .i64 0, .int .i64 0, .int .i64 0, .int .i64 0, .int .i64 0, .int .i64 0]⟩,
    ⟨none, some 7, .asg (.c (.lit (.slice none 0 0)))⟩,
    ⟨none, some 8, .asg (.c (.int .i64 0))⟩])
 (.seq (.seq (.region [⟨none, some 12, .ld (.t 3) (some 8)⟩,
     ⟨none, some 13, .call 19 [(.t 12)]⟩,
     ⟨none, some 14, .not (.t 13)⟩,
     ⟨none, some 15, .mov (.t 14)⟩,
     ⟨some (15, false), some 16, .ld (.t 3) (some 8)⟩,
     ⟨some (15, false), some 17, .mov (.t 1)⟩,
     ⟨some (15, false), some 18, .call 20 [(.t 16), (.t 17)]⟩,
     ⟨some (15, false), some 19, .not (.t 18)⟩,
     ⟨none, some 20, .pick (.t 15) (.c (.bool true)) (.t 19)⟩])
  (.cond (.t 20) (.seq (.region [⟨none, some 21, .build [.int .u8 0, .int .i64 0, .int .i64 0, .int .i64 0, .int .i64 0, .int .i64 0, .int .i64 0, .int .i64 0] []⟩,
      ⟨none, none, .st (.t 6) (.t 21) 8⟩,
      ⟨none, some 7, .asg (.c (.lit (.slice none 0 0)))⟩,
      ⟨none, some 8, .asg (.c (.int .i64 2))⟩])
   (.ret))
   (.skip)))
 (.seq (.region [⟨none, some 9, .alloc (List.replicate 64 (.bool false))⟩])
 (.seq (.seq (.region [⟨none, some 22, .mov (.t 2)⟩,
     ⟨none, some 23, .len false (.t 22)⟩,
     ⟨none, some 24, .mov (.c (.int .i64 0))⟩])
  (.block 0 (.loop (.seq (.region [⟨none, some 25, .bin .lss (.t 24) (.t 23)⟩])
    (.seq (.cond (.t 25) (.skip)
      (.exit 0))
    (.seq (.block 1 (.seq (.region [⟨none, some 26, .idx (.t 22) (.t 24) 1⟩,
         ⟨none, some 27, .ld (.t 26) none⟩,
         ⟨none, some 11, .asg (.t 27)⟩])
      (.seq (.region [⟨none, some 28, .mov (.t 11)⟩,
         ⟨none, some 29, .bin .geq (.t 28) (.c (.int .i64 0))⟩,
         ⟨none, some 30, .mov (.t 29)⟩,
         ⟨some (30, true), some 31, .mov (.t 11)⟩,
         ⟨some (30, true), some 32, .bin .lss (.t 31) (.c (.int .i64 64))⟩,
         ⟨none, some 33, .pick (.t 30) (.t 32) (.c (.bool false))⟩])
      (.cond (.t 33) (.region [⟨none, some 34, .mov (.t 11)⟩,
         ⟨none, some 35, .idxA (.t 9) (.t 34) 1 64⟩,
         ⟨none, none, .st (.t 35) (.c (.bool true)) 1⟩])
       (.skip)))))
    (.region [⟨none, some 36, .bin .add (.t 24) (.c (.int .i64 1))⟩,
      ⟨none, some 24, .mov (.t 36)⟩])))))))
 (.seq (.region [⟨none, some 37, .mov (.t 1)⟩,
    ⟨none, some 38, .len false (.t 37)⟩,
    ⟨none, some 39, .mkslice 8 [.int .i64 0] (.t 38) (.t 38)⟩,
    ⟨none, some 7, .asg (.t 39)⟩])
 (.seq (.region [⟨none, some 40, .mov (.t 7)⟩,
    ⟨none, some 41, .mov (.t 1)⟩,
    ⟨none, some 42, .cpy (.t 40) (.t 41) 1⟩])
 (.seq (.region [⟨none, some 43, .mov (.t 7)⟩,
    ⟨none, some 44, .mkfn (.func 22) [] [(.t 9)]⟩,
    ⟨none, some 45, .call 21 [(.t 43), (.t 44)]⟩,
    ⟨none, some 7, .asg (.t 45)⟩])
 (.seq (.region [⟨none, some 47, .ld (.t 3) (some 8)⟩,
    ⟨none, some 48, .mov (.t 1)⟩,
    ⟨none, some 49, .len false (.t 48)⟩,
    ⟨none, some 50, .mov (.t 7)⟩,
    ⟨none, some 51, .len false (.t 50)⟩,
    ⟨none, some 52, .bin .sub (.t 49) (.t 51)⟩,
    ⟨none, some 53, .call 23 [(.t 47), (.t 52)]⟩,
    ⟨none, some 46, .mov (.t 53)⟩,
    ⟨none, some 54, .ext (.t 46) 0⟩,
    ⟨none, some 55, .ext (.t 46) 1⟩,
    ⟨none, none, .st (.t 6) (.t 54) 8⟩,
    ⟨none, some 8, .asg (.t 55)⟩])
 (.seq (.seq (.region [⟨none, some 56, .mov (.t 8)⟩,
     ⟨none, some 57, .bin .eql (.t 56) (.c (.int .i64 0))⟩])
  (.cond (.t 57) (.region [⟨none, some 58, .ld (.t 6) (some 8)⟩,
     ⟨none, some 59, .call 24 [(.t 58)]⟩,
     ⟨none, some 8, .asg (.t 59)⟩])
   (.skip)))
 (.seq (.seq (.region [⟨none, some 60, .mov (.t 8)⟩,
     ⟨none, some 61, .bin .neq (.t 60) (.c (.int .i64 0))⟩])
  (.cond (.t 61) (.seq (.region [⟨none, some 62, .build [.int .u8 0, .int .i64 0, .int .i64 0, .int .i64 0, .int .i64 0, .int .i64 0, .int .i64 0, .int .i64 0] []⟩,
      ⟨none, some 63, .mov (.t 8)⟩,
      ⟨none, none, .st (.t 6) (.t 62) 8⟩,
      ⟨none, some 7, .asg (.c (.lit (.slice none 0 0)))⟩,
      ⟨none, some 8, .asg (.t 63)⟩])
   (.ret))
   (.skip)))
 (.seq (.region [⟨none, some 64, .ld (.t 6) (some 8)⟩,
    ⟨none, some 65, .mov (.t 7)⟩,
    ⟨none, none, .st (.t 6) (.t 64) 8⟩,
    ⟨none, some 7, .asg (.t 65)⟩,
    ⟨none, some 8, .asg (.c (.int .i64 0))⟩])
 (.ret)))))))))))
abbrev replan_Exclude.D0 : List Nat := [11, 24, 25, 26, 27, 28, 29, 30, 31, 32, 33, 34, 35, 36]
theorem replan_Exclude.k : chkFn Go.Proofs.Try.prog 8 66 [.cell 6 (some 8), .tmp 7, .tmp 8] replan_Exclude.c = true := by kernel_rfl

/-- conclave/replan.Exclude$1: function 22; parameters: int; results: bool -/
def replan_Exclude_1.c : ACode :=
 .seq (.region [⟨none, some 3, .asg (.c (.bool false))⟩])
 (.seq (.region [⟨none, some 4, .mov (.t 0)⟩,
    ⟨none, some 5, .idxA (.t 1) (.t 4) 1 64⟩,
    ⟨none, some 6, .ld (.t 5) none⟩,
    ⟨none, some 3, .asg (.t 6)⟩])
 (.ret))
theorem replan_Exclude_1.k : chkFn Go.Proofs.Try.prog 22 7 [.tmp 3] replan_Exclude_1.c = true := by kernel_rfl

/-- conclave/replan.Here: function 14; parameters: []int, int; results: int, bool -/
def replan_Here.c : ACode :=
 .seq (.region [⟨none, some 4, .asg (.c (.int .i64 0))⟩,
    ⟨none, some 5, .asg (.c (.bool false))⟩])
 (.seq (.region [⟨none, some 6, .mov (.t 0)⟩,
    ⟨none, some 7, .mov (.t 1)⟩,
    ⟨none, some 8, .call 29 [(.t 6), (.t 7)]⟩,
    ⟨none, some 4, .asg (.t 8)⟩])
 (.seq (.region [⟨none, some 9, .mov (.t 4)⟩,
    ⟨none, some 10, .mx (.t 9) (.c (.int .i64 0))⟩,
    ⟨none, some 11, .mov (.t 4)⟩,
    ⟨none, some 12, .bin .geq (.t 11) (.c (.int .i64 0))⟩,
    ⟨none, some 4, .asg (.t 10)⟩,
    ⟨none, some 5, .asg (.t 12)⟩])
 (.ret)))
theorem replan_Here.k : chkFn Go.Proofs.Try.prog 14 13 [.tmp 4, .tmp 5] replan_Here.c = true := by kernel_rfl

/-- conclave/replan.Chain: function 17; parameters: api.Plan, [][]int; results: api.Plan, []int, api.Errno -/
def replan_Chain.c : ACode :=
 .seq (.region [⟨none, some 2, .box (.t 0)⟩,
    ⟨none, some 4, .alloc [.int .u8 0, .int .i64 0, .int .i64 0, .int .i64 0, .int .i64 0, .int .i64 0, .int .i64 0, .int .i64 0]⟩,
    ⟨none, some 5, .asg (.c (.lit (.slice none 0 0)))⟩,
    ⟨none, some 6, .asg (.c (.int .i64 0))⟩])
 (.scope (.seq (.region [⟨none, some 9, .ld (.t 2) (some 8)⟩,
     ⟨none, none, .st (.t 4) (.t 9) 8⟩])
  (.seq (.region [⟨none, some 11, .ld (.t 2) (some 8)⟩,
     ⟨none, some 12, .call 12 [(.t 11)]⟩,
     ⟨none, some 10, .mov (.t 12)⟩,
     ⟨none, some 13, .ext (.t 10) 0⟩,
     ⟨none, some 14, .ext (.t 10) 1⟩,
     ⟨none, some 5, .asg (.t 13)⟩,
     ⟨none, some 6, .asg (.t 14)⟩])
  (.seq (.label 0)
  (.seq (.seq (.region [⟨none, some 15, .mov (.t 1)⟩,
      ⟨none, some 16, .len false (.t 15)⟩,
      ⟨none, some 17, .mov (.c (.int .i64 0))⟩])
   (.block 0 (.loop (.seq (.region [⟨none, some 18, .bin .lss (.t 17) (.t 16)⟩])
     (.seq (.cond (.t 18) (.skip)
       (.exit 0))
     (.seq (.block 1 (.seq (.region [⟨none, some 19, .idx (.t 15) (.t 17) 1⟩,
          ⟨none, some 20, .ld (.t 19) none⟩,
          ⟨none, some 8, .asg (.t 20)⟩])
       (.seq (.seq (.region [⟨none, some 21, .mov (.t 6)⟩,
           ⟨none, some 22, .bin .neq (.t 21) (.c (.int .i64 0))⟩])
        (.cond (.t 22) (.exit 0)
         (.skip)))
       (.region [⟨none, some 24, .ld (.t 4) (some 8)⟩,
         ⟨none, some 25, .mov (.t 5)⟩,
         ⟨none, some 26, .mov (.t 8)⟩,
         ⟨none, some 27, .call 8 [(.t 24), (.t 25), (.t 26)]⟩,
         ⟨none, some 23, .mov (.t 27)⟩,
         ⟨none, some 28, .ext (.t 23) 0⟩,
         ⟨none, some 29, .ext (.t 23) 1⟩,
         ⟨none, some 30, .ext (.t 23) 2⟩,
         ⟨none, none, .st (.t 4) (.t 28) 8⟩,
         ⟨none, some 5, .asg (.t 29)⟩,
         ⟨none, some 6, .asg (.t 30)⟩]))))
     (.region [⟨none, some 31, .bin .add (.t 17) (.c (.int .i64 1))⟩,
       ⟨none, some 17, .mov (.t 31)⟩])))))))
  (.seq (.seq (.region [⟨none, some 32, .mov (.t 6)⟩,
      ⟨none, some 33, .bin .neq (.t 32) (.c (.int .i64 0))⟩])
   (.cond (.t 33) (.seq (.region [⟨none, some 34, .build [.int .u8 0, .int .i64 0, .int .i64 0, .int .i64 0, .int .i64 0, .int .i64 0, .int .i64 0, .int .i64 0] []⟩,
       ⟨none, some 35, .mov (.t 6)⟩,
       ⟨none, none, .st (.t 4) (.t 34) 8⟩,
       ⟨none, some 5, .asg (.c (.lit (.slice none 0 0)))⟩,
       ⟨none, some 6, .asg (.t 35)⟩])
    (.ret))
    (.skip)))
  (.seq (.region [⟨none, some 36, .ld (.t 4) (some 8)⟩,
     ⟨none, some 37, .mov (.t 5)⟩,
     ⟨none, none, .st (.t 4) (.t 36) 8⟩,
     ⟨none, some 5, .asg (.t 37)⟩,
     ⟨none, some 6, .asg (.c (.int .i64 0))⟩])
  (.ret))))))))
abbrev replan_Chain.D0 : List Nat := [5, 6, 8, 17, 18, 19, 20, 21, 22, 23, 24, 25, 26, 27, 28, 29, 30, 31]
theorem replan_Chain.k : chkFn Go.Proofs.Try.prog 17 38 [.cell 4 (some 8), .tmp 5, .tmp 6] replan_Chain.c = true := by kernel_rfl

/-- slices.Index[[]int,int]: function 29; parameters: []int, int; results: int -/
def slices_Index_int_int.c : ACode :=
 .seq (.region [⟨none, some 4, .asg (.c (.int .i64 0))⟩])
 (.seq (.seq (.region [⟨none, some 6, .mov (.t 0)⟩,
     ⟨none, some 7, .len false (.t 6)⟩,
     ⟨none, some 8, .mov (.c (.int .i64 0))⟩])
  (.block 0 (.loop (.seq (.region [⟨none, some 9, .bin .lss (.t 8) (.t 7)⟩])
    (.seq (.cond (.t 9) (.skip)
      (.exit 0))
    (.seq (.block 1 (.seq (.region [⟨none, some 10, .mov (.t 8)⟩,
         ⟨none, some 5, .asg (.t 10)⟩])
      (.seq (.region [⟨none, some 11, .mov (.t 1)⟩,
         ⟨none, some 12, .mov (.t 0)⟩,
         ⟨none, some 13, .mov (.t 5)⟩,
         ⟨none, some 14, .idx (.t 12) (.t 13) 1⟩,
         ⟨none, some 15, .ld (.t 14) none⟩,
         ⟨none, some 16, .bin .eql (.t 11) (.t 15)⟩])
      (.cond (.t 16) (.seq (.region [⟨none, some 17, .mov (.t 5)⟩,
          ⟨none, some 4, .asg (.t 17)⟩])
       (.ret))
       (.skip)))))
    (.region [⟨none, some 18, .bin .add (.t 8) (.c (.int .i64 1))⟩,
      ⟨none, some 8, .mov (.t 18)⟩])))))))
 (.seq (.region [⟨none, some 4, .asg (.c (.int .i64 (-1)))⟩])
 (.ret)))
abbrev slices_Index_int_int.D0 : List Nat := [4, 5, 8, 9, 10, 11, 12, 13, 14, 15, 16, 17, 18]
theorem slices_Index_int_int.k : chkFn Go.Proofs.Try.prog 29 19 [.tmp 4] slices_Index_int_int.c = true := by kernel_rfl

/-- slices.IndexFunc[[]int,int]: function 32; parameters: []int, func(int) bool; results: int -/
def slices_IndexFunc_int_int.c : ACode :=
 .seq (.region [⟨none, some 4, .asg (.c (.int .i64 0))⟩])
 (.seq (.seq (.region [⟨none, some 6, .mov (.t 0)⟩,
     ⟨none, some 7, .len false (.t 6)⟩,
     ⟨none, some 8, .mov (.c (.int .i64 0))⟩])
  (.block 0 (.loop (.seq (.region [⟨none, some 9, .bin .lss (.t 8) (.t 7)⟩])
    (.seq (.cond (.t 9) (.skip)
      (.exit 0))
    (.seq (.block 1 (.seq (.region [⟨none, some 10, .mov (.t 8)⟩,
         ⟨none, some 5, .asg (.t 10)⟩])
      (.seq (.region [⟨none, some 11, .mov (.t 1)⟩,
         ⟨none, some 12, .mov (.t 0)⟩,
         ⟨none, some 13, .mov (.t 5)⟩,
         ⟨none, some 14, .idx (.t 12) (.t 13) 1⟩,
         ⟨none, some 15, .ld (.t 14) none⟩,
         ⟨none, some 16, .callv (.t 11) [(.t 15)]⟩])
      (.cond (.t 16) (.seq (.region [⟨none, some 17, .mov (.t 5)⟩,
          ⟨none, some 4, .asg (.t 17)⟩])
       (.ret))
       (.skip)))))
    (.region [⟨none, some 18, .bin .add (.t 8) (.c (.int .i64 1))⟩,
      ⟨none, some 8, .mov (.t 18)⟩])))))))
 (.seq (.region [⟨none, some 4, .asg (.c (.int .i64 (-1)))⟩])
 (.ret)))
abbrev slices_IndexFunc_int_int.D0 : List Nat := [4, 5, 8, 9, 10, 11, 12, 13, 14, 15, 16, 17, 18]
theorem slices_IndexFunc_int_int.k : chkFn Go.Proofs.Try.prog 32 19 [.tmp 4] slices_IndexFunc_int_int.c = true := by kernel_rfl

/-- slices.DeleteFunc[[]int,int]: function 21; parameters: []int, func(int) bool; results: []int -/
def slices_DeleteFunc_int_int.c : ACode :=
 .seq (.region [⟨none, some 4, .asg (.c (.lit (.slice none 0 0)))⟩])
 (.seq (.region [⟨none, some 8, .mov (.t 0)⟩,
    ⟨none, some 9, .mov (.t 1)⟩,
    ⟨none, some 10, .call 32 [(.t 8), (.t 9)]⟩,
    ⟨none, some 5, .asg (.t 10)⟩])
 (.seq (.seq (.region [⟨none, some 11, .mov (.t 5)⟩,
     ⟨none, some 12, .bin .eql (.t 11) (.c (.int .i64 (-1)))⟩])
  (.cond (.t 12) (.seq (.region [⟨none, some 13, .mov (.t 0)⟩,
      ⟨none, some 4, .asg (.t 13)⟩])
   (.ret))
   (.skip)))
 (.seq (.seq (.region [⟨none, some 14, .mov (.t 5)⟩,
     ⟨none, some 15, .bin .add (.t 14) (.c (.int .i64 1))⟩,
     ⟨none, some 6, .asg (.t 15)⟩])
  (.block 0 (.loop (.seq (.seq (.region [⟨none, some 16, .mov (.t 6)⟩,
        ⟨none, some 17, .mov (.t 0)⟩,
        ⟨none, some 18, .len false (.t 17)⟩,
        ⟨none, some 19, .bin .lss (.t 16) (.t 18)⟩])
     (.cond (.t 19) (.skip)
      (.exit 0)))
    (.seq (.block 1 (.seq (.region [⟨none, some 22, .mov (.t 0)⟩,
         ⟨none, some 23, .mov (.t 6)⟩,
         ⟨none, some 24, .idx (.t 22) (.t 23) 1⟩,
         ⟨none, some 25, .ld (.t 24) none⟩,
         ⟨none, some 7, .asg (.t 25)⟩])
      (.seq (.region [⟨none, some 26, .mov (.t 1)⟩,
         ⟨none, some 27, .mov (.t 7)⟩,
         ⟨none, some 28, .callv (.t 26) [(.t 27)]⟩,
         ⟨none, some 29, .not (.t 28)⟩])
      (.cond (.t 29) (.seq (.region [⟨none, some 30, .mov (.t 0)⟩,
          ⟨none, some 31, .mov (.t 5)⟩,
          ⟨none, some 32, .mov (.t 7)⟩,
          ⟨none, some 33, .idx (.t 30) (.t 31) 1⟩,
          ⟨none, none, .st (.t 33) (.t 32) 1⟩])
       (.region [⟨none, some 34, .mov (.t 5)⟩,
         ⟨none, some 35, .bin .add (.t 34) (.c (.int .i64 1))⟩,
         ⟨none, some 5, .asg (.t 35)⟩]))
       (.skip)))))
    (.region [⟨none, some 20, .mov (.t 6)⟩,
      ⟨none, some 21, .bin .add (.t 20) (.c (.int .i64 1))⟩,
      ⟨none, some 6, .asg (.t 21)⟩]))))))
 (.seq (.region [⟨none, some 36, .mov (.t 0)⟩,
    ⟨none, some 37, .mov (.t 5)⟩,
    ⟨none, some 38, .slc (.t 36) (some (.t 37)) none none 1⟩,
    ⟨none, none, .clr (.t 38) [.int .i64 0]⟩])
 (.seq (.region [⟨none, some 39, .mov (.t 0)⟩,
    ⟨none, some 40, .mov (.t 5)⟩,
    ⟨none, some 41, .slc (.t 39) none (some (.t 40)) none 1⟩,
    ⟨none, some 4, .asg (.t 41)⟩])
 (.ret))))))
abbrev slices_DeleteFunc_int_int.D0 : List Nat := [5, 6, 7, 16, 17, 18, 19, 20, 21, 22, 23, 24, 25, 26, 27, 28, 29, 30, 31, 32, 33, 34, 35]
theorem slices_DeleteFunc_int_int.k : chkFn Go.Proofs.Try.prog 21 42 [.tmp 4] slices_DeleteFunc_int_int.c = true := by kernel_rfl

/-- conclave/conclaveref28.Everybody: function 13; parameters: api.Plan; results: []int, int -/
def ref28_Everybody.c : ACode :=
 .seq (.region [⟨none, some 1, .box (.t 0)⟩,
    ⟨none, some 2, .asg (.c (.lit (.slice none 0 0)))⟩,
    ⟨none, some 3, .asg (.c (.int .i64 0))⟩])
 (.seq (.seq (.region [⟨none, some 6, .ld (.t 1) (some 8)⟩,
     ⟨none, some 7, .call 25 [(.t 6)]⟩,
     ⟨none, some 8, .not (.t 7)⟩])
  (.cond (.t 8) (.seq (.region [⟨none, some 2, .asg (.c (.lit (.slice none 0 0)))⟩,
      ⟨none, some 3, .asg (.c (.int .i64 2))⟩])
   (.ret))
   (.skip)))
 (.seq (.region [⟨none, some 4, .asg (.c (.lit (.slice none 0 0)))⟩])
 (.seq (.seq (.region [⟨none, some 5, .asg (.c (.int .i64 0))⟩])
  (.block 0 (.loop (.seq (.seq (.region [⟨none, some 9, .mov (.t 5)⟩,
        ⟨none, some 10, .fld (.t 1) 1⟩,
        ⟨none, some 11, .ld (.t 10) none⟩,
        ⟨none, some 12, .bin .lss (.t 9) (.t 11)⟩])
     (.cond (.t 12) (.skip)
      (.exit 0)))
    (.seq (.block 1 (.region [⟨none, some 15, .mov (.t 4)⟩,
        ⟨none, some 16, .mov (.t 5)⟩,
        ⟨none, some 17, .bslice 1 [.int .i64 0] [(0, 1, (.t 16))]⟩,
        ⟨none, some 18, .app (.t 15) (.t 17) 1 8⟩,
        ⟨none, some 4, .asg (.t 18)⟩]))
    (.region [⟨none, some 13, .mov (.t 5)⟩,
      ⟨none, some 14, .bin .add (.t 13) (.c (.int .i64 1))⟩,
      ⟨none, some 5, .asg (.t 14)⟩]))))))
 (.seq (.region [⟨none, some 19, .mov (.t 4)⟩,
    ⟨none, some 2, .asg (.t 19)⟩,
    ⟨none, some 3, .asg (.c (.int .i64 0))⟩])
 (.ret)))))
abbrev ref28_Everybody.D0 : List Nat := [4, 5, 9, 10, 11, 12, 13, 14, 15, 16, 17, 18]
theorem ref28_Everybody.k : chkFn Go.Proofs.Try.prog 13 20 [.tmp 2, .tmp 3] ref28_Everybody.c = true := by kernel_rfl

/-- conclave/conclaveref28.has: function 26; parameters: []int, int; results: bool -/
def ref28_has.c : ACode :=
 .seq (.region [⟨none, some 4, .asg (.c (.bool false))⟩])
 (.seq (.seq (.region [⟨none, some 5, .asg (.c (.int .i64 0))⟩])
  (.block 0 (.loop (.seq (.seq (.region [⟨none, some 6, .mov (.t 5)⟩,
        ⟨none, some 7, .mov (.t 0)⟩,
        ⟨none, some 8, .len false (.t 7)⟩,
        ⟨none, some 9, .bin .lss (.t 6) (.t 8)⟩])
     (.cond (.t 9) (.skip)
      (.exit 0)))
    (.seq (.block 1 (.seq (.region [⟨none, some 12, .mov (.t 0)⟩,
         ⟨none, some 13, .mov (.t 5)⟩,
         ⟨none, some 14, .idx (.t 12) (.t 13) 1⟩,
         ⟨none, some 15, .ld (.t 14) none⟩,
         ⟨none, some 16, .mov (.t 1)⟩,
         ⟨none, some 17, .bin .eql (.t 15) (.t 16)⟩])
      (.cond (.t 17) (.seq (.region [⟨none, some 4, .asg (.c (.bool true))⟩])
       (.ret))
       (.skip))))
    (.region [⟨none, some 10, .mov (.t 5)⟩,
      ⟨none, some 11, .bin .add (.t 10) (.c (.int .i64 1))⟩,
      ⟨none, some 5, .asg (.t 11)⟩]))))))
 (.seq (.region [⟨none, some 4, .asg (.c (.bool false))⟩])
 (.ret)))
abbrev ref28_has.D0 : List Nat := [4, 5, 6, 7, 8, 9, 10, 11, 12, 13, 14, 15, 16, 17]
theorem ref28_has.k : chkFn Go.Proofs.Try.prog 26 18 [.tmp 4] ref28_has.c = true := by kernel_rfl

/-- conclave/conclaveref28.Exclude: function 9; parameters: api.Plan, []int, []int; results: api.Plan, []int, int -/
def ref28_Exclude.c : ACode :=
 .seq (.region [⟨none, some 3, .box (.t 0)⟩,
    ⟨none, some 6, .alloc [.int .u8 0, .int .i64 0, .int .i64 0, .int .i64 0, .int .i64 0, .int .i64 0, .int .i64 0, .int .i64 0]⟩,
    ⟨none, some 7, .asg (.c (.lit (.slice none 0 0)))⟩,
    ⟨none, some 8, .asg (.c (.int .i64 0))⟩])
 (.seq (.seq (.region [⟨none, some 13, .ld (.t 3) (some 8)⟩,
     ⟨none, some 14, .call 25 [(.t 13)]⟩,
     ⟨none, some 15, .not (.t 14)⟩,
     ⟨none, some 16, .mov (.t 15)⟩,
     ⟨some (16, false), some 17, .mov (.t 1)⟩,
     ⟨some (16, false), some 18, .len false (.t 17)⟩,
     ⟨some (16, false), some 19, .fld (.t 3) 1⟩,
     ⟨some (16, false), some 20, .ld (.t 19) none⟩,
     ⟨some (16, false), some 21, .bin .neq (.t 18) (.t 20)⟩,
     ⟨none, some 22, .pick (.t 16) (.c (.bool true)) (.t 21)⟩])
  (.cond (.t 22) (.seq (.region [⟨none, some 23, .build [.int .u8 0, .int .i64 0, .int .i64 0, .int .i64 0, .int .i64 0, .int .i64 0, .int .i64 0, .int .i64 0] []⟩,
      ⟨none, none, .st (.t 6) (.t 23) 8⟩,
      ⟨none, some 7, .asg (.c (.lit (.slice none 0 0)))⟩,
      ⟨none, some 8, .asg (.c (.int .i64 2))⟩])
   (.ret))
   (.skip)))
 (.seq (.region [⟨none, some 9, .asg (.c (.lit (.slice none 0 0)))⟩])
 (.seq (.seq (.region [⟨none, some 10, .asg (.c (.int .i64 0))⟩])
  (.block 0 (.loop (.seq (.seq (.region [⟨none, some 24, .mov (.t 10)⟩,
        ⟨none, some 25, .mov (.t 1)⟩,
        ⟨none, some 26, .len false (.t 25)⟩,
        ⟨none, some 27, .bin .lss (.t 24) (.t 26)⟩])
     (.cond (.t 27) (.skip)
      (.exit 0)))
    (.seq (.block 1 (.seq (.seq (.draw [0, 1, 2, 3, 4, 5, 6, 7, 8, 9, 10, 11, 12, 13, 14, 15, 16, 17, 18, 19, 20, 21, 22, 23, 24, 25, 26, 27] [] [⟨none, some 30, .mov (.t 1)⟩,
          ⟨none, some 31, .mov (.t 10)⟩,
          ⟨none, some 32, .idx (.t 30) (.t 31) 1⟩,
          ⟨none, some 33, .ld (.t 32) none⟩,
          ⟨none, some 34, .bin .lss (.t 33) (.c (.int .i64 0))⟩,
          ⟨none, some 35, .mov (.t 34)⟩,
          ⟨some (35, false), some 36, .mov (.t 1)⟩,
          ⟨some (35, false), some 37, .mov (.t 10)⟩,
          ⟨some (35, false), some 38, .idx (.t 36) (.t 37) 1⟩,
          ⟨some (35, false), some 39, .ld (.t 38) none⟩,
          ⟨some (35, false), some 40, .bin .geq (.t 39) (.c (.int .i64 64))⟩,
          ⟨none, some 41, .pick (.t 35) (.c (.bool true)) (.t 40)⟩,
          ⟨none, some 42, .mov (.t 41)⟩,
          ⟨some (42, false), some 43, .mov (.t 10)⟩,
          ⟨some (42, false), some 44, .bin .gtr (.t 43) (.c (.int .i64 0))⟩,
          ⟨some (42, false), some 45, .mov (.t 44)⟩,
          ⟨some (45, true), some 46, .mov (.t 1)⟩,
          ⟨some (45, true), some 47, .mov (.t 10)⟩,
          ⟨some (45, true), some 48, .idx (.t 46) (.t 47) 1⟩,
          ⟨some (45, true), some 49, .ld (.t 48) none⟩,
          ⟨some (45, true), some 50, .mov (.t 1)⟩,
          ⟨some (45, true), some 51, .mov (.t 10)⟩,
          ⟨some (45, true), some 52, .bin .sub (.t 51) (.c (.int .i64 1))⟩,
          ⟨some (45, true), some 53, .idx (.t 50) (.t 52) 1⟩,
          ⟨some (45, true), some 54, .ld (.t 53) none⟩,
          ⟨some (45, true), some 55, .bin .leq (.t 49) (.t 54)⟩,
          ⟨some (42, false), some 56, .pick (.t 45) (.t 55) (.c (.bool false))⟩,
          ⟨none, some 57, .pick (.t 42) (.c (.bool true)) (.t 56)⟩])
       (.cond (.t 57) (.seq (.region [⟨none, some 58, .build [.int .u8 0, .int .i64 0, .int .i64 0, .int .i64 0, .int .i64 0, .int .i64 0, .int .i64 0, .int .i64 0] []⟩,
           ⟨none, none, .st (.t 6) (.t 58) 8⟩,
           ⟨none, some 7, .asg (.c (.lit (.slice none 0 0)))⟩,
           ⟨none, some 8, .asg (.c (.int .i64 2))⟩])
        (.ret))
        (.skip)))
      (.seq (.region [⟨none, some 59, .mov (.t 2)⟩,
         ⟨none, some 60, .mov (.t 1)⟩,
         ⟨none, some 61, .mov (.t 10)⟩,
         ⟨none, some 62, .idx (.t 60) (.t 61) 1⟩,
         ⟨none, some 63, .ld (.t 62) none⟩,
         ⟨none, some 64, .call 26 [(.t 59), (.t 63)]⟩,
         ⟨none, some 65, .not (.t 64)⟩])
      (.cond (.t 65) (.region [⟨none, some 66, .mov (.t 9)⟩,
         ⟨none, some 67, .mov (.t 1)⟩,
         ⟨none, some 68, .mov (.t 10)⟩,
         ⟨none, some 69, .idx (.t 67) (.t 68) 1⟩,
         ⟨none, some 70, .ld (.t 69) none⟩,
         ⟨none, some 71, .bslice 1 [.int .i64 0] [(0, 1, (.t 70))]⟩,
         ⟨none, some 72, .app (.t 66) (.t 71) 1 8⟩,
         ⟨none, some 9, .asg (.t 72)⟩])
       (.skip)))))
    (.region [⟨none, some 28, .mov (.t 10)⟩,
      ⟨none, some 29, .bin .add (.t 28) (.c (.int .i64 1))⟩,
      ⟨none, some 10, .asg (.t 29)⟩]))))))
 (.seq (.region [⟨none, some 74, .ld (.t 3) (some 8)⟩,
    ⟨none, some 75, .mov (.t 1)⟩,
    ⟨none, some 76, .len false (.t 75)⟩,
    ⟨none, some 77, .mov (.t 9)⟩,
    ⟨none, some 78, .len false (.t 77)⟩,
    ⟨none, some 79, .bin .sub (.t 76) (.t 78)⟩,
    ⟨none, some 80, .call 27 [(.t 74), (.t 79)]⟩,
    ⟨none, some 73, .mov (.t 80)⟩,
    ⟨none, some 81, .ext (.t 73) 0⟩,
    ⟨none, some 82, .ext (.t 73) 1⟩,
    ⟨none, some 11, .alloc [.int .u8 0, .int .i64 0, .int .i64 0, .int .i64 0, .int .i64 0, .int .i64 0, .int .i64 0, .int .i64 0]⟩,
    ⟨none, none, .st (.t 11) (.t 81) 8⟩,
    ⟨none, some 12, .asg (.t 82)⟩])
 (.seq (.seq (.region [⟨none, some 83, .mov (.t 12)⟩,
     ⟨none, some 84, .bin .eql (.t 83) (.c (.int .i64 0))⟩])
  (.cond (.t 84) (.region [⟨none, some 85, .ld (.t 11) (some 8)⟩,
     ⟨none, some 86, .call 16 [(.t 85)]⟩,
     ⟨none, some 12, .asg (.t 86)⟩])
   (.skip)))
 (.seq (.seq (.region [⟨none, some 87, .mov (.t 12)⟩,
     ⟨none, some 88, .bin .neq (.t 87) (.c (.int .i64 0))⟩])
  (.cond (.t 88) (.seq (.region [⟨none, some 89, .build [.int .u8 0, .int .i64 0, .int .i64 0, .int .i64 0, .int .i64 0, .int .i64 0, .int .i64 0, .int .i64 0] []⟩,
      ⟨none, some 90, .mov (.t 12)⟩,
      ⟨none, none, .st (.t 6) (.t 89) 8⟩,
      ⟨none, some 7, .asg (.c (.lit (.slice none 0 0)))⟩,
      ⟨none, some 8, .asg (.t 90)⟩])
   (.ret))
   (.skip)))
 (.seq (.region [⟨none, some 91, .ld (.t 11) (some 8)⟩,
    ⟨none, some 92, .mov (.t 9)⟩,
    ⟨none, none, .st (.t 6) (.t 91) 8⟩,
    ⟨none, some 7, .asg (.t 92)⟩,
    ⟨none, some 8, .asg (.c (.int .i64 0))⟩])
 (.ret))))))))
abbrev ref28_Exclude.D0 : List Nat := [7, 8, 9, 10, 24, 25, 26, 27, 28, 29, 30, 31, 32, 33, 34, 35, 36, 37, 38, 39, 40, 41, 42, 43, 44, 45, 46, 47, 48, 49, 50, 51, 52, 53, 54, 55, 56, 57, 58, 59, 60, 61, 62, 63, 64, 65, 66, 67, 68, 69, 70, 71, 72]
theorem ref28_Exclude.k : chkFn Go.Proofs.Try.prog 9 93 [.cell 6 (some 8), .tmp 7, .tmp 8] ref28_Exclude.c = true := by kernel_rfl

/-- conclave/conclaveref28.Here: function 15; parameters: []int, int; results: int, bool -/
def ref28_Here.c : ACode :=
 .seq (.region [⟨none, some 4, .asg (.c (.int .i64 0))⟩,
    ⟨none, some 5, .asg (.c (.bool false))⟩])
 (.seq (.seq (.region [⟨none, some 6, .asg (.c (.int .i64 0))⟩])
  (.block 0 (.loop (.seq (.seq (.region [⟨none, some 7, .mov (.t 6)⟩,
        ⟨none, some 8, .mov (.t 0)⟩,
        ⟨none, some 9, .len false (.t 8)⟩,
        ⟨none, some 10, .bin .lss (.t 7) (.t 9)⟩])
     (.cond (.t 10) (.skip)
      (.exit 0)))
    (.seq (.block 1 (.seq (.region [⟨none, some 13, .mov (.t 0)⟩,
         ⟨none, some 14, .mov (.t 6)⟩,
         ⟨none, some 15, .idx (.t 13) (.t 14) 1⟩,
         ⟨none, some 16, .ld (.t 15) none⟩,
         ⟨none, some 17, .mov (.t 1)⟩,
         ⟨none, some 18, .bin .eql (.t 16) (.t 17)⟩])
      (.cond (.t 18) (.seq (.region [⟨none, some 19, .mov (.t 6)⟩,
          ⟨none, some 4, .asg (.t 19)⟩,
          ⟨none, some 5, .asg (.c (.bool true))⟩])
       (.ret))
       (.skip))))
    (.region [⟨none, some 11, .mov (.t 6)⟩,
      ⟨none, some 12, .bin .add (.t 11) (.c (.int .i64 1))⟩,
      ⟨none, some 6, .asg (.t 12)⟩]))))))
 (.seq (.region [⟨none, some 4, .asg (.c (.int .i64 0))⟩,
    ⟨none, some 5, .asg (.c (.bool false))⟩])
 (.ret)))
abbrev ref28_Here.D0 : List Nat := [4, 5, 6, 7, 8, 9, 10, 11, 12, 13, 14, 15, 16, 17, 18, 19]
theorem ref28_Here.k : chkFn Go.Proofs.Try.prog 15 20 [.tmp 4, .tmp 5] ref28_Here.c = true := by kernel_rfl

/-- conclave/conclaveref28.Chain: function 18; parameters: api.Plan, [][]int; results: api.Plan, []int, int -/
def ref28_Chain.c : ACode :=
 .seq (.region [⟨none, some 2, .box (.t 0)⟩,
    ⟨none, some 4, .alloc [.int .u8 0, .int .i64 0, .int .i64 0, .int .i64 0, .int .i64 0, .int .i64 0, .int .i64 0, .int .i64 0]⟩,
    ⟨none, some 5, .asg (.c (.lit (.slice none 0 0)))⟩,
    ⟨none, some 6, .asg (.c (.int .i64 0))⟩])
 (.seq (.region [⟨none, some 11, .ld (.t 2) (some 8)⟩,
    ⟨none, some 12, .call 13 [(.t 11)]⟩,
    ⟨none, some 10, .mov (.t 12)⟩,
    ⟨none, some 13, .ext (.t 10) 0⟩,
    ⟨none, some 14, .ext (.t 10) 1⟩,
    ⟨none, some 7, .asg (.t 13)⟩,
    ⟨none, some 8, .asg (.t 14)⟩])
 (.seq (.seq (.region [⟨none, some 9, .asg (.c (.int .i64 0))⟩])
  (.block 0 (.loop (.seq (.seq (.region [⟨none, some 15, .mov (.t 9)⟩,
        ⟨none, some 16, .mov (.t 1)⟩,
        ⟨none, some 17, .len false (.t 16)⟩,
        ⟨none, some 18, .bin .lss (.t 15) (.t 17)⟩,
        ⟨none, some 19, .mov (.t 18)⟩,
        ⟨some (19, true), some 20, .mov (.t 8)⟩,
        ⟨some (19, true), some 21, .bin .eql (.t 20) (.c (.int .i64 0))⟩,
        ⟨none, some 22, .pick (.t 19) (.t 21) (.c (.bool false))⟩])
     (.cond (.t 22) (.skip)
      (.exit 0)))
    (.seq (.block 1 (.draw [0, 1, 2, 3, 4, 5, 6, 7, 8, 9, 10, 11, 12, 13] [(6, 0), (6, 5), (11, 0), (11, 5), (12, 0), (12, 5), (13, 0), (13, 5)] [⟨none, some 26, .ld (.t 2) (some 8)⟩,
        ⟨none, some 27, .mov (.t 7)⟩,
        ⟨none, some 28, .mov (.t 1)⟩,
        ⟨none, some 29, .mov (.t 9)⟩,
        ⟨none, some 30, .idx (.t 28) (.t 29) 1⟩,
        ⟨none, some 31, .ld (.t 30) none⟩,
        ⟨none, some 32, .call 9 [(.t 26), (.t 27), (.t 31)]⟩,
        ⟨none, some 25, .mov (.t 32)⟩,
        ⟨none, some 33, .ext (.t 25) 0⟩,
        ⟨none, some 34, .ext (.t 25) 1⟩,
        ⟨none, some 35, .ext (.t 25) 2⟩,
        ⟨none, none, .st (.t 2) (.t 33) 8⟩,
        ⟨none, some 7, .asg (.t 34)⟩,
        ⟨none, some 8, .asg (.t 35)⟩]))
    (.region [⟨none, some 23, .mov (.t 9)⟩,
      ⟨none, some 24, .bin .add (.t 23) (.c (.int .i64 1))⟩,
      ⟨none, some 9, .asg (.t 24)⟩]))))))
 (.seq (.seq (.region [⟨none, some 36, .mov (.t 8)⟩,
     ⟨none, some 37, .bin .neq (.t 36) (.c (.int .i64 0))⟩])
  (.cond (.t 37) (.seq (.region [⟨none, some 38, .build [.int .u8 0, .int .i64 0, .int .i64 0, .int .i64 0, .int .i64 0, .int .i64 0, .int .i64 0, .int .i64 0] []⟩,
      ⟨none, some 39, .mov (.t 8)⟩,
      ⟨none, none, .st (.t 4) (.t 38) 8⟩,
      ⟨none, some 5, .asg (.c (.lit (.slice none 0 0)))⟩,
      ⟨none, some 6, .asg (.t 39)⟩])
   (.ret))
   (.skip)))
 (.seq (.region [⟨none, some 40, .ld (.t 2) (some 8)⟩,
    ⟨none, some 41, .mov (.t 7)⟩,
    ⟨none, none, .st (.t 4) (.t 40) 8⟩,
    ⟨none, some 5, .asg (.t 41)⟩,
    ⟨none, some 6, .asg (.c (.int .i64 0))⟩])
 (.ret)))))
abbrev ref28_Chain.D0 : List Nat := [7, 8, 9, 15, 16, 17, 18, 19, 20, 21, 22, 23, 24, 25, 26, 27, 28, 29, 30, 31, 32, 33, 34, 35]
theorem ref28_Chain.k : chkFn Go.Proofs.Try.prog 18 42 [.cell 4 (some 8), .tmp 5, .tmp 6] ref28_Chain.c = true := by kernel_rfl

/-- conclave/conclaveref09.Ints: function 11; parameters: []int, []int; results: bool -/
def ref09_Ints.c : ACode :=
 .seq (.region [⟨none, some 4, .asg (.c (.bool false))⟩])
 (.seq (.seq (.region [⟨none, some 6, .mov (.t 0)⟩,
     ⟨none, some 7, .len false (.t 6)⟩,
     ⟨none, some 8, .mov (.t 1)⟩,
     ⟨none, some 9, .len false (.t 8)⟩,
     ⟨none, some 10, .bin .neq (.t 7) (.t 9)⟩])
  (.cond (.t 10) (.seq (.region [⟨none, some 4, .asg (.c (.bool false))⟩])
   (.ret))
   (.skip)))
 (.seq (.seq (.region [⟨none, some 5, .asg (.c (.int .i64 0))⟩])
  (.block 0 (.loop (.seq (.seq (.region [⟨none, some 11, .mov (.t 5)⟩,
        ⟨none, some 12, .mov (.t 0)⟩,
        ⟨none, some 13, .len false (.t 12)⟩,
        ⟨none, some 14, .bin .lss (.t 11) (.t 13)⟩])
     (.cond (.t 14) (.skip)
      (.exit 0)))
    (.seq (.block 1 (.seq (.draw [0, 1, 2, 3, 4, 5, 6, 7, 8] [] [⟨none, some 17, .mov (.t 0)⟩,
         ⟨none, some 18, .mov (.t 5)⟩,
         ⟨none, some 19, .idx (.t 17) (.t 18) 1⟩,
         ⟨none, some 20, .ld (.t 19) none⟩,
         ⟨none, some 21, .mov (.t 1)⟩,
         ⟨none, some 22, .mov (.t 5)⟩,
         ⟨none, some 23, .idx (.t 21) (.t 22) 1⟩,
         ⟨none, some 24, .ld (.t 23) none⟩,
         ⟨none, some 25, .bin .neq (.t 20) (.t 24)⟩])
      (.cond (.t 25) (.seq (.region [⟨none, some 4, .asg (.c (.bool false))⟩])
       (.ret))
       (.skip))))
    (.region [⟨none, some 15, .mov (.t 5)⟩,
      ⟨none, some 16, .bin .add (.t 15) (.c (.int .i64 1))⟩,
      ⟨none, some 5, .asg (.t 16)⟩]))))))
 (.seq (.region [⟨none, some 4, .asg (.c (.bool true))⟩])
 (.ret))))
abbrev ref09_Ints.D0 : List Nat := [4, 5, 11, 12, 13, 14, 15, 16, 17, 18, 19, 20, 21, 22, 23, 24, 25]
theorem ref09_Ints.k : chkFn Go.Proofs.Try.prog 11 26 [.tmp 4] ref09_Ints.c = true := by kernel_rfl

end Go.Proofs.Ytbalpmdoeikkbaa.C
