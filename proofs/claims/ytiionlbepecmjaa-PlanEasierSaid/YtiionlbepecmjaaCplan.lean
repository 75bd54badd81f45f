import Derived.Test.YtiionlbepecmjaaAwalk
import Derived.Test.YtiionlbepecmjaaProg
import Derived.KernelRfl
namespace Go.Proofs.Ytiionlbepecmjaa.C
open Go Go.RowKit Go.Proofs.Ytiionlbepecmjaa.AL

/-- conclave/plan.within: function 27; parameters: int, int, int; results: bool -/
def plan_within.c : ACode :=
 .seq (.region [⟨none, some 6, .asg (.c (.bool false))⟩])
 (.seq (.region [⟨none, some 7, .mov (.t 0)⟩,
    ⟨none, some 8, .mov (.t 1)⟩,
    ⟨none, some 9, .bin .geq (.t 7) (.t 8)⟩,
    ⟨none, some 10, .mov (.t 9)⟩,
    ⟨some (10, true), some 11, .mov (.t 0)⟩,
    ⟨some (10, true), some 12, .mov (.t 2)⟩,
    ⟨some (10, true), some 13, .bin .leq (.t 11) (.t 12)⟩,
    ⟨none, some 14, .pick (.t 10) (.t 13) (.c (.bool false))⟩,
    ⟨none, some 6, .asg (.t 14)⟩])
 (.ret))
theorem plan_within.k : chkFn Go.Proofs.Try.prog 27 15 [.tmp 6] plan_within.c = true := by kernel_rfl

/-- conclave/plan.May: function 19; parameters: api.Plan; results: bool -/
def plan_May.c : ACode :=
 .seq (.region [⟨none, some 1, .box (.t 0)⟩,
    ⟨none, some 2, .asg (.c (.bool false))⟩])
 (.seq (.region [⟨none, some 3, .fld (.t 1) 0⟩,
    ⟨none, some 4, .ld (.t 3) none⟩,
    ⟨none, some 5, .bin .eql (.t 4) (.c (.int .u8 1))⟩,
    ⟨none, some 6, .mov (.t 5)⟩,
    ⟨some (6, false), some 7, .fld (.t 1) 0⟩,
    ⟨some (6, false), some 8, .ld (.t 7) none⟩,
    ⟨some (6, false), some 9, .bin .eql (.t 8) (.c (.int .u8 2))⟩,
    ⟨none, some 10, .pick (.t 6) (.c (.bool true)) (.t 9)⟩,
    ⟨none, some 11, .mov (.t 10)⟩,
    ⟨some (11, true), some 12, .fld (.t 1) 1⟩,
    ⟨some (11, true), some 13, .ld (.t 12) none⟩,
    ⟨some (11, true), some 14, .call 27 [(.t 13), (.c (.int .i64 1)), (.c (.int .i64 64))]⟩,
    ⟨none, some 15, .pick (.t 11) (.t 14) (.c (.bool false))⟩,
    ⟨none, some 16, .mov (.t 15)⟩,
    ⟨some (16, true), some 17, .fld (.t 1) 2⟩,
    ⟨some (16, true), some 18, .ld (.t 17) none⟩,
    ⟨some (16, true), some 19, .call 27 [(.t 18), (.c (.int .i64 1)), (.c (.int .i64 64))]⟩,
    ⟨none, some 20, .pick (.t 16) (.t 19) (.c (.bool false))⟩,
    ⟨none, some 21, .mov (.t 20)⟩,
    ⟨some (21, true), some 22, .fld (.t 1) 7⟩,
    ⟨some (21, true), some 23, .ld (.t 22) none⟩,
    ⟨some (21, true), some 24, .call 27 [(.t 23), (.c (.int .i64 1)), (.c (.int .i64 64))]⟩,
    ⟨none, some 25, .pick (.t 21) (.t 24) (.c (.bool false))⟩,
    ⟨none, some 26, .mov (.t 25)⟩,
    ⟨some (26, true), some 27, .fld (.t 1) 3⟩,
    ⟨some (26, true), some 28, .ld (.t 27) none⟩,
    ⟨some (26, true), some 29, .call 27 [(.t 28), (.c (.int .i64 0)), (.c (.int .i64 64))]⟩,
    ⟨none, some 30, .pick (.t 26) (.t 29) (.c (.bool false))⟩,
    ⟨none, some 31, .mov (.t 30)⟩,
    ⟨some (31, true), some 32, .fld (.t 1) 2⟩,
    ⟨some (31, true), some 33, .ld (.t 32) none⟩,
    ⟨some (31, true), some 34, .fld (.t 1) 3⟩,
    ⟨some (31, true), some 35, .ld (.t 34) none⟩,
    ⟨some (31, true), some 36, .bin .add (.t 33) (.t 35)⟩,
    ⟨some (31, true), some 37, .bin .leq (.t 36) (.c (.int .i64 64))⟩,
    ⟨none, some 38, .pick (.t 31) (.t 37) (.c (.bool false))⟩,
    ⟨none, some 39, .mov (.t 38)⟩,
    ⟨some (39, true), some 40, .fld (.t 1) 4⟩,
    ⟨some (39, true), some 41, .ld (.t 40) none⟩,
    ⟨some (39, true), some 42, .call 27 [(.t 41), (.c (.int .i64 0)), (.c (.int .i64 64))]⟩,
    ⟨none, some 43, .pick (.t 39) (.t 42) (.c (.bool false))⟩,
    ⟨none, some 44, .mov (.t 43)⟩,
    ⟨some (44, true), some 45, .fld (.t 1) 5⟩,
    ⟨some (44, true), some 46, .ld (.t 45) none⟩,
    ⟨some (44, true), some 47, .call 27 [(.t 46), (.c (.int .i64 0)), (.c (.int .i64 64))]⟩,
    ⟨none, some 48, .pick (.t 44) (.t 47) (.c (.bool false))⟩,
    ⟨none, some 49, .mov (.t 48)⟩,
    ⟨some (49, true), some 50, .fld (.t 1) 6⟩,
    ⟨some (49, true), some 51, .ld (.t 50) none⟩,
    ⟨some (49, true), some 52, .call 27 [(.t 51), (.c (.int .i64 0)), (.c (.int .i64 1024))]⟩,
    ⟨none, some 53, .pick (.t 49) (.t 52) (.c (.bool false))⟩,
    ⟨none, some 2, .asg (.t 53)⟩])
 (.ret))
theorem plan_May.k : chkFn Go.Proofs.Try.prog 19 54 [.tmp 2] plan_May.c = true := by kernel_rfl

/-- conclave/plan.degree: function 26; parameters: api.Plan; results: int -/
def plan_degree.c : ACode :=
 .seq (.region [⟨none, some 1, .box (.t 0)⟩,
    ⟨none, some 2, .asg (.c (.int .i64 0))⟩])
 (.seq (.region [⟨none, some 3, .fld (.t 1) 6⟩,
    ⟨none, some 4, .ld (.t 3) none⟩,
    ⟨none, some 5, .fld (.t 1) 2⟩,
    ⟨none, some 6, .ld (.t 5) none⟩,
    ⟨none, some 7, .fld (.t 1) 3⟩,
    ⟨none, some 8, .ld (.t 7) none⟩,
    ⟨none, some 9, .bin .add (.t 6) (.t 8)⟩,
    ⟨none, some 10, .bin .sub (.t 9) (.c (.int .i64 1))⟩,
    ⟨none, some 11, .bin .mul (.t 4) (.t 10)⟩,
    ⟨none, some 2, .asg (.t 11)⟩])
 (.ret))
theorem plan_degree.k : chkFn Go.Proofs.Try.prog 26 12 [.tmp 2] plan_degree.c = true := by kernel_rfl

/-- conclave/plan.spare: function 23; parameters: api.Plan; results: int -/
def plan_spare.c : ACode :=
 .seq (.region [⟨none, some 1, .box (.t 0)⟩,
    ⟨none, some 2, .asg (.c (.int .i64 0))⟩])
 (.seq (.draw [0, 1, 2, 4, 5, 7, 8, 9, 3, 6, 10, 11, 12, 13] [(3, 2), (13, 1), (13, 2), (13, 5), (13, 8)] [⟨none, some 3, .fld (.t 1) 1⟩,
    ⟨none, some 4, .ld (.t 3) none⟩,
    ⟨none, some 5, .ld (.t 1) (some 8)⟩,
    ⟨none, some 6, .call 26 [(.t 5)]⟩,
    ⟨none, some 7, .fld (.t 1) 4⟩,
    ⟨none, some 8, .ld (.t 7) none⟩,
    ⟨none, some 9, .bin .add (.t 6) (.t 8)⟩,
    ⟨none, some 10, .fld (.t 1) 5⟩,
    ⟨none, some 11, .ld (.t 10) none⟩,
    ⟨none, some 12, .bin .mul (.c (.int .i64 2)) (.t 11)⟩,
    ⟨none, some 13, .bin .add (.t 9) (.t 12)⟩,
    ⟨none, some 14, .bin .add (.t 13) (.c (.int .i64 1))⟩,
    ⟨none, some 15, .bin .sub (.t 4) (.t 14)⟩,
    ⟨none, some 2, .asg (.t 15)⟩])
 (.ret))
theorem plan_spare.k : chkFn Go.Proofs.Try.prog 23 16 [.tmp 2] plan_spare.c = true := by kernel_rfl

/-- conclave/plan.Degree: function 15; parameters: api.Plan; results: int, api.Errno -/
def plan_Degree.c : ACode :=
 .seq (.region [⟨none, some 1, .box (.t 0)⟩,
    ⟨none, some 2, .asg (.c (.int .i64 0))⟩,
    ⟨none, some 3, .asg (.c (.int .i64 0))⟩])
 (.seq (.seq (.region [⟨none, some 4, .ld (.t 1) (some 8)⟩,
     ⟨none, some 5, .call 19 [(.t 4)]⟩,
     ⟨none, some 6, .not (.t 5)⟩])
  (.cond (.t 6) (.seq (.region [⟨none, some 2, .asg (.c (.int .i64 0))⟩,
      ⟨none, some 3, .asg (.c (.int .i64 2))⟩])
   (.ret))
   (.skip)))
 (.seq (.region [⟨none, some 7, .ld (.t 1) (some 8)⟩,
    ⟨none, some 8, .call 26 [(.t 7)]⟩,
    ⟨none, some 2, .asg (.t 8)⟩,
    ⟨none, some 3, .asg (.c (.int .i64 0))⟩])
 (.ret)))
theorem plan_Degree.k : chkFn Go.Proofs.Try.prog 15 9 [.tmp 2, .tmp 3] plan_Degree.c = true := by kernel_rfl

/-- conclave/plan.Needed: function 11; parameters: api.Plan; results: int, api.Errno -/
def plan_Needed.c : ACode :=
 .seq (.region [⟨none, some 1, .box (.t 0)⟩,
    ⟨none, some 2, .asg (.c (.int .i64 0))⟩,
    ⟨none, some 3, .asg (.c (.int .i64 0))⟩])
 (.seq (.seq (.region [⟨none, some 4, .ld (.t 1) (some 8)⟩,
     ⟨none, some 5, .call 19 [(.t 4)]⟩,
     ⟨none, some 6, .not (.t 5)⟩])
  (.cond (.t 6) (.seq (.region [⟨none, some 2, .asg (.c (.int .i64 0))⟩,
      ⟨none, some 3, .asg (.c (.int .i64 2))⟩])
   (.ret))
   (.skip)))
 (.seq (.draw [0, 2, 3, 4, 1, 5, 6, 7, 8] [(1, 0), (7, 0), (7, 3), (8, 0), (8, 3)] [⟨none, some 7, .ld (.t 1) (some 8)⟩,
    ⟨none, some 8, .call 26 [(.t 7)]⟩,
    ⟨none, some 9, .fld (.t 1) 5⟩,
    ⟨none, some 10, .ld (.t 9) none⟩,
    ⟨none, some 11, .bin .mul (.c (.int .i64 2)) (.t 10)⟩,
    ⟨none, some 12, .bin .add (.t 8) (.t 11)⟩,
    ⟨none, some 13, .bin .add (.t 12) (.c (.int .i64 1))⟩,
    ⟨none, some 2, .asg (.t 13)⟩,
    ⟨none, some 3, .asg (.c (.int .i64 0))⟩])
 (.ret)))
theorem plan_Needed.k : chkFn Go.Proofs.Try.prog 11 14 [.tmp 2, .tmp 3] plan_Needed.c = true := by kernel_rfl

/-- conclave/plan.Accept: function 8; parameters: api.Plan; results: api.Errno -/
def plan_Accept.c : ACode :=
 .seq (.region [⟨none, some 1, .box (.t 0)⟩,
    ⟨none, some 2, .asg (.c (.int .i64 0))⟩])
 (.seq (.block 0 (.seq (.region [⟨none, some 4, .ld (.t 1) (some 8)⟩,
      ⟨none, some 5, .call 19 [(.t 4)]⟩,
      ⟨none, some 6, .not (.t 5)⟩,
      ⟨none, some 3, .asg (.t 6)⟩])
   (.cond (.t 3) (.seq (.region [⟨none, some 2, .asg (.c (.int .i64 2))⟩])
    (.ret))
    (.seq (.region [⟨none, some 8, .ld (.t 1) (some 8)⟩,
       ⟨none, some 9, .call 23 [(.t 8)]⟩,
       ⟨none, some 10, .bin .lss (.t 9) (.c (.int .i64 0))⟩,
       ⟨none, some 7, .asg (.t 10)⟩])
    (.cond (.t 7) (.seq (.region [⟨none, some 2, .asg (.c (.int .i64 120))⟩])
     (.ret))
     (.skip))))))
 (.seq (.region [⟨none, some 2, .asg (.c (.int .i64 0))⟩])
 (.ret)))
theorem plan_Accept.k : chkFn Go.Proofs.Try.prog 8 11 [.tmp 2] plan_Accept.c = true := by kernel_rfl

/-- conclave/plan.Spare: function 12; parameters: api.Plan; results: int, api.Errno -/
def plan_Spare.c : ACode :=
 .seq (.region [⟨none, some 1, .box (.t 0)⟩,
    ⟨none, some 2, .asg (.c (.int .i64 0))⟩,
    ⟨none, some 3, .asg (.c (.int .i64 0))⟩])
 (.seq (.seq (.region [⟨none, some 4, .ld (.t 1) (some 8)⟩,
     ⟨none, some 5, .call 19 [(.t 4)]⟩,
     ⟨none, some 6, .not (.t 5)⟩])
  (.cond (.t 6) (.seq (.region [⟨none, some 2, .asg (.c (.int .i64 0))⟩,
      ⟨none, some 3, .asg (.c (.int .i64 2))⟩])
   (.ret))
   (.skip)))
 (.seq (.region [⟨none, some 7, .ld (.t 1) (some 8)⟩,
    ⟨none, some 8, .call 23 [(.t 7)]⟩,
    ⟨none, some 2, .asg (.t 8)⟩,
    ⟨none, some 3, .asg (.c (.int .i64 0))⟩])
 (.ret)))
theorem plan_Spare.k : chkFn Go.Proofs.Try.prog 12 9 [.tmp 2, .tmp 3] plan_Spare.c = true := by kernel_rfl

/-- conclave/plan.Widest: function 14; parameters: api.Plan; results: api.Plan, api.Errno -/
def plan_Widest.c : ACode :=
 .seq (.region [⟨none, some 1, .box (.t 0)⟩,
    ⟨none, some 2, .alloc [.int .u8 0, .int .i64 0, .int .i64 0, .int .i64 0, .int .i64 0, .int .i64 0, .int .i64 0, .int .i64 0]⟩,
    ⟨none, some 3, .asg (.c (.int .i64 0))⟩])
 (.seq (.seq (.region [⟨none, some 4, .ld (.t 1) (some 8)⟩,
     ⟨none, some 5, .call 19 [(.t 4)]⟩,
     ⟨none, some 6, .not (.t 5)⟩])
  (.cond (.t 6) (.seq (.region [⟨none, some 7, .build [.int .u8 0, .int .i64 0, .int .i64 0, .int .i64 0, .int .i64 0, .int .i64 0, .int .i64 0, .int .i64 0] []⟩,
      ⟨none, none, .st (.t 2) (.t 7) 8⟩,
      ⟨none, some 3, .asg (.c (.int .i64 2))⟩])
   (.ret))
   (.skip)))
 (.seq (.seq (.region [⟨none, some 8, .fld (.t 1) 3⟩,
     ⟨none, some 9, .ld (.t 8) none⟩,
     ⟨none, some 10, .bin .sub (.c (.int .i64 64)) (.t 9)⟩,
     ⟨none, some 11, .fld (.t 1) 2⟩,
     ⟨none, none, .st (.t 11) (.t 10) 1⟩])
  (.block 0 (.loop (.seq (.seq (.region [⟨none, some 12, .fld (.t 1) 2⟩,
        ⟨none, some 13, .ld (.t 12) none⟩,
        ⟨none, some 14, .bin .geq (.t 13) (.c (.int .i64 1))⟩])
     (.cond (.t 14) (.skip)
      (.exit 0)))
    (.seq (.block 1 (.seq (.region [⟨none, some 19, .ld (.t 1) (some 8)⟩,
         ⟨none, some 20, .call 23 [(.t 19)]⟩,
         ⟨none, some 21, .bin .geq (.t 20) (.c (.int .i64 0))⟩])
      (.cond (.t 21) (.seq (.region [⟨none, some 22, .ld (.t 1) (some 8)⟩,
          ⟨none, none, .st (.t 2) (.t 22) 8⟩,
          ⟨none, some 3, .asg (.c (.int .i64 0))⟩])
       (.ret))
       (.skip))))
    (.region [⟨none, some 15, .fld (.t 1) 2⟩,
      ⟨none, some 16, .ld (.t 15) none⟩,
      ⟨none, some 17, .bin .sub (.t 16) (.c (.int .i64 1))⟩,
      ⟨none, some 18, .fld (.t 1) 2⟩,
      ⟨none, none, .st (.t 18) (.t 17) 1⟩]))))))
 (.seq (.region [⟨none, some 23, .build [.int .u8 0, .int .i64 0, .int .i64 0, .int .i64 0, .int .i64 0, .int .i64 0, .int .i64 0, .int .i64 0] []⟩,
    ⟨none, none, .st (.t 2) (.t 23) 8⟩,
    ⟨none, some 3, .asg (.c (.int .i64 120))⟩])
 (.ret))))
abbrev plan_Widest.D0 : List Nat := [3, 12, 13, 14, 15, 16, 17, 18, 19, 20, 21, 22]
theorem plan_Widest.k : chkFn Go.Proofs.Try.prog 14 24 [.cell 2 (some 8), .tmp 3] plan_Widest.c = true := by kernel_rfl

/-- conclave/plan.Without: function 13; parameters: api.Plan, int; results: api.Plan, api.Errno -/
def plan_Without.c : ACode :=
 .seq (.region [⟨none, some 2, .box (.t 0)⟩,
    ⟨none, some 4, .alloc [.int .u8 0, .int .i64 0, .int .i64 0, .int .i64 0, .int .i64 0, .int .i64 0, .int .i64 0, .int .i64 0]⟩,
    ⟨none, some 5, .asg (.c (.int .i64 0))⟩])
 (.seq (.seq (.region [⟨none, some 6, .ld (.t 2) (some 8)⟩,
     ⟨none, some 7, .call 19 [(.t 6)]⟩,
     ⟨none, some 8, .not (.t 7)⟩,
     ⟨none, some 9, .mov (.t 8)⟩,
     ⟨some (9, false), some 10, .mov (.t 1)⟩,
     ⟨some (9, false), some 11, .fld (.t 2) 1⟩,
     ⟨some (9, false), some 12, .ld (.t 11) none⟩,
     ⟨some (9, false), some 13, .bin .sub (.t 12) (.c (.int .i64 1))⟩,
     ⟨some (9, false), some 14, .call 27 [(.t 10), (.c (.int .i64 0)), (.t 13)]⟩,
     ⟨some (9, false), some 15, .not (.t 14)⟩,
     ⟨none, some 16, .pick (.t 9) (.c (.bool true)) (.t 15)⟩])
  (.cond (.t 16) (.seq (.region [⟨none, some 17, .build [.int .u8 0, .int .i64 0, .int .i64 0, .int .i64 0, .int .i64 0, .int .i64 0, .int .i64 0, .int .i64 0] []⟩,
      ⟨none, none, .st (.t 4) (.t 17) 8⟩,
      ⟨none, some 5, .asg (.c (.int .i64 2))⟩])
   (.ret))
   (.skip)))
 (.seq (.region [⟨none, some 18, .fld (.t 2) 1⟩,
    ⟨none, some 19, .ld (.t 18) none⟩,
    ⟨none, some 20, .mov (.t 1)⟩,
    ⟨none, some 21, .bin .sub (.t 19) (.t 20)⟩,
    ⟨none, some 22, .fld (.t 2) 5⟩,
    ⟨none, some 23, .ld (.t 22) none⟩,
    ⟨none, some 24, .mov (.t 1)⟩,
    ⟨none, some 25, .bin .sub (.t 23) (.t 24)⟩,
    ⟨none, some 26, .mx (.t 25) (.c (.int .i64 0))⟩,
    ⟨none, some 27, .fld (.t 2) 1⟩,
    ⟨none, none, .st (.t 27) (.t 21) 1⟩,
    ⟨none, some 28, .fld (.t 2) 5⟩,
    ⟨none, none, .st (.t 28) (.t 26) 1⟩])
 (.seq (.seq (.region [⟨none, some 29, .ld (.t 2) (some 8)⟩,
     ⟨none, some 30, .call 19 [(.t 29)]⟩,
     ⟨none, some 31, .not (.t 30)⟩])
  (.cond (.t 31) (.seq (.region [⟨none, some 32, .build [.int .u8 0, .int .i64 0, .int .i64 0, .int .i64 0, .int .i64 0, .int .i64 0, .int .i64 0, .int .i64 0] []⟩,
      ⟨none, none, .st (.t 4) (.t 32) 8⟩,
      ⟨none, some 5, .asg (.c (.int .i64 2))⟩])
   (.ret))
   (.skip)))
 (.seq (.region [⟨none, some 33, .ld (.t 2) (some 8)⟩,
    ⟨none, none, .st (.t 4) (.t 33) 8⟩,
    ⟨none, some 5, .asg (.c (.int .i64 0))⟩])
 (.ret)))))
theorem plan_Without.k : chkFn Go.Proofs.Try.prog 13 34 [.cell 4 (some 8), .tmp 5] plan_Without.c = true := by kernel_rfl

/-- conclave/conclaveref12.within: function 25; parameters: int, int, int; results: bool -/
def ref12_within.c : ACode :=
 .seq (.region [⟨none, some 6, .asg (.c (.bool false))⟩])
 (.seq (.region [⟨none, some 7, .mov (.t 0)⟩,
    ⟨none, some 8, .mov (.t 1)⟩,
    ⟨none, some 9, .bin .geq (.t 7) (.t 8)⟩,
    ⟨none, some 10, .mov (.t 9)⟩,
    ⟨some (10, true), some 11, .mov (.t 0)⟩,
    ⟨some (10, true), some 12, .mov (.t 2)⟩,
    ⟨some (10, true), some 13, .bin .leq (.t 11) (.t 12)⟩,
    ⟨none, some 14, .pick (.t 10) (.t 13) (.c (.bool false))⟩,
    ⟨none, some 6, .asg (.t 14)⟩])
 (.ret))
theorem ref12_within.k : chkFn Go.Proofs.Try.prog 25 15 [.tmp 6] ref12_within.c = true := by kernel_rfl

/-- conclave/conclaveref12.May: function 10; parameters: api.Plan; results: bool -/
def ref12_May.c : ACode :=
 .seq (.region [⟨none, some 1, .box (.t 0)⟩,
    ⟨none, some 2, .asg (.c (.bool false))⟩])
 (.seq (.region [⟨none, some 3, .fld (.t 1) 0⟩,
    ⟨none, some 4, .ld (.t 3) none⟩,
    ⟨none, some 5, .conv .i64 (.t 4)⟩,
    ⟨none, some 6, .call 25 [(.t 5), (.c (.int .i64 1)), (.c (.int .i64 2))]⟩,
    ⟨none, some 7, .mov (.t 6)⟩,
    ⟨some (7, true), some 8, .fld (.t 1) 1⟩,
    ⟨some (7, true), some 9, .ld (.t 8) none⟩,
    ⟨some (7, true), some 10, .call 25 [(.t 9), (.c (.int .i64 1)), (.c (.int .i64 64))]⟩,
    ⟨none, some 11, .pick (.t 7) (.t 10) (.c (.bool false))⟩,
    ⟨none, some 12, .mov (.t 11)⟩,
    ⟨some (12, true), some 13, .fld (.t 1) 2⟩,
    ⟨some (12, true), some 14, .ld (.t 13) none⟩,
    ⟨some (12, true), some 15, .call 25 [(.t 14), (.c (.int .i64 1)), (.c (.int .i64 64))]⟩,
    ⟨none, some 16, .pick (.t 12) (.t 15) (.c (.bool false))⟩,
    ⟨none, some 17, .mov (.t 16)⟩,
    ⟨some (17, true), some 18, .fld (.t 1) 7⟩,
    ⟨some (17, true), some 19, .ld (.t 18) none⟩,
    ⟨some (17, true), some 20, .call 25 [(.t 19), (.c (.int .i64 1)), (.c (.int .i64 64))]⟩,
    ⟨none, some 21, .pick (.t 17) (.t 20) (.c (.bool false))⟩,
    ⟨none, some 22, .mov (.t 21)⟩,
    ⟨some (22, true), some 23, .fld (.t 1) 3⟩,
    ⟨some (22, true), some 24, .ld (.t 23) none⟩,
    ⟨some (22, true), some 25, .fld (.t 1) 2⟩,
    ⟨some (22, true), some 26, .ld (.t 25) none⟩,
    ⟨some (22, true), some 27, .bin .sub (.c (.int .i64 64)) (.t 26)⟩,
    ⟨some (22, true), some 28, .call 25 [(.t 24), (.c (.int .i64 0)), (.t 27)]⟩,
    ⟨none, some 29, .pick (.t 22) (.t 28) (.c (.bool false))⟩,
    ⟨none, some 30, .mov (.t 29)⟩,
    ⟨some (30, true), some 31, .fld (.t 1) 4⟩,
    ⟨some (30, true), some 32, .ld (.t 31) none⟩,
    ⟨some (30, true), some 33, .call 25 [(.t 32), (.c (.int .i64 0)), (.c (.int .i64 64))]⟩,
    ⟨none, some 34, .pick (.t 30) (.t 33) (.c (.bool false))⟩,
    ⟨none, some 35, .mov (.t 34)⟩,
    ⟨some (35, true), some 36, .fld (.t 1) 5⟩,
    ⟨some (35, true), some 37, .ld (.t 36) none⟩,
    ⟨some (35, true), some 38, .call 25 [(.t 37), (.c (.int .i64 0)), (.c (.int .i64 64))]⟩,
    ⟨none, some 39, .pick (.t 35) (.t 38) (.c (.bool false))⟩,
    ⟨none, some 40, .mov (.t 39)⟩,
    ⟨some (40, true), some 41, .fld (.t 1) 6⟩,
    ⟨some (40, true), some 42, .ld (.t 41) none⟩,
    ⟨some (40, true), some 43, .call 25 [(.t 42), (.c (.int .i64 0)), (.c (.int .i64 1024))]⟩,
    ⟨none, some 44, .pick (.t 40) (.t 43) (.c (.bool false))⟩,
    ⟨none, some 2, .asg (.t 44)⟩])
 (.ret))
theorem ref12_May.k : chkFn Go.Proofs.Try.prog 10 45 [.tmp 2] ref12_May.c = true := by kernel_rfl

/-- conclave/conclaveref12.D: function 28; parameters: api.Plan; results: int -/
def ref12_D.c : ACode :=
 .seq (.region [⟨none, some 1, .box (.t 0)⟩,
    ⟨none, some 2, .asg (.c (.int .i64 0))⟩])
 (.seq (.region [⟨none, some 3, .fld (.t 1) 6⟩,
    ⟨none, some 4, .ld (.t 3) none⟩,
    ⟨none, some 5, .fld (.t 1) 2⟩,
    ⟨none, some 6, .ld (.t 5) none⟩,
    ⟨none, some 7, .fld (.t 1) 3⟩,
    ⟨none, some 8, .ld (.t 7) none⟩,
    ⟨none, some 9, .bin .add (.t 6) (.t 8)⟩,
    ⟨none, some 10, .bin .sub (.t 9) (.c (.int .i64 1))⟩,
    ⟨none, some 11, .bin .mul (.t 4) (.t 10)⟩,
    ⟨none, some 2, .asg (.t 11)⟩])
 (.ret))
theorem ref12_D.k : chkFn Go.Proofs.Try.prog 28 12 [.tmp 2] ref12_D.c = true := by kernel_rfl

/-- conclave/conclaveref12.Degree: function 16; parameters: api.Plan; results: int, int -/
def ref12_Degree.c : ACode :=
 .seq (.region [⟨none, some 1, .box (.t 0)⟩,
    ⟨none, some 2, .asg (.c (.int .i64 0))⟩,
    ⟨none, some 3, .asg (.c (.int .i64 0))⟩])
 (.seq (.seq (.region [⟨none, some 4, .ld (.t 1) (some 8)⟩,
     ⟨none, some 5, .call 10 [(.t 4)]⟩,
     ⟨none, some 6, .not (.t 5)⟩])
  (.cond (.t 6) (.seq (.region [⟨none, some 2, .asg (.c (.int .i64 0))⟩,
      ⟨none, some 3, .asg (.c (.int .i64 2))⟩])
   (.ret))
   (.skip)))
 (.seq (.region [⟨none, some 7, .ld (.t 1) (some 8)⟩,
    ⟨none, some 8, .call 28 [(.t 7)]⟩,
    ⟨none, some 2, .asg (.t 8)⟩,
    ⟨none, some 3, .asg (.c (.int .i64 0))⟩])
 (.ret)))
theorem ref12_Degree.k : chkFn Go.Proofs.Try.prog 16 9 [.tmp 2, .tmp 3] ref12_Degree.c = true := by kernel_rfl

/-- conclave/conclaveref12.Needed: function 17; parameters: api.Plan; results: int, int -/
def ref12_Needed.c : ACode :=
 .seq (.region [⟨none, some 1, .box (.t 0)⟩,
    ⟨none, some 2, .asg (.c (.int .i64 0))⟩,
    ⟨none, some 3, .asg (.c (.int .i64 0))⟩])
 (.seq (.seq (.region [⟨none, some 4, .ld (.t 1) (some 8)⟩,
     ⟨none, some 5, .call 10 [(.t 4)]⟩,
     ⟨none, some 6, .not (.t 5)⟩])
  (.cond (.t 6) (.seq (.region [⟨none, some 2, .asg (.c (.int .i64 0))⟩,
      ⟨none, some 3, .asg (.c (.int .i64 2))⟩])
   (.ret))
   (.skip)))
 (.seq (.draw [0, 2, 3, 4, 1, 5, 6, 7, 8] [(1, 0), (7, 0), (7, 3), (8, 0), (8, 3)] [⟨none, some 7, .ld (.t 1) (some 8)⟩,
    ⟨none, some 8, .call 28 [(.t 7)]⟩,
    ⟨none, some 9, .fld (.t 1) 5⟩,
    ⟨none, some 10, .ld (.t 9) none⟩,
    ⟨none, some 11, .bin .mul (.c (.int .i64 2)) (.t 10)⟩,
    ⟨none, some 12, .bin .add (.t 8) (.t 11)⟩,
    ⟨none, some 13, .bin .add (.t 12) (.c (.int .i64 1))⟩,
    ⟨none, some 2, .asg (.t 13)⟩,
    ⟨none, some 3, .asg (.c (.int .i64 0))⟩])
 (.ret)))
theorem ref12_Needed.k : chkFn Go.Proofs.Try.prog 17 14 [.tmp 2, .tmp 3] ref12_Needed.c = true := by kernel_rfl

/-- conclave/conclaveref12.Accept: function 20; parameters: api.Plan; results: int -/
def ref12_Accept.c : ACode :=
 .seq (.region [⟨none, some 1, .box (.t 0)⟩,
    ⟨none, some 2, .asg (.c (.int .i64 0))⟩])
 (.seq (.seq (.region [⟨none, some 3, .ld (.t 1) (some 8)⟩,
     ⟨none, some 4, .call 10 [(.t 3)]⟩,
     ⟨none, some 5, .not (.t 4)⟩])
  (.cond (.t 5) (.seq (.region [⟨none, some 2, .asg (.c (.int .i64 2))⟩])
   (.ret))
   (.skip)))
 (.seq (.seq (.draw [0, 1, 2, 4, 5, 7, 8, 9, 3, 6, 10, 11, 12] [(3, 2)] [⟨none, some 6, .fld (.t 1) 1⟩,
     ⟨none, some 7, .ld (.t 6) none⟩,
     ⟨none, some 8, .ld (.t 1) (some 8)⟩,
     ⟨none, some 9, .call 28 [(.t 8)]⟩,
     ⟨none, some 10, .fld (.t 1) 4⟩,
     ⟨none, some 11, .ld (.t 10) none⟩,
     ⟨none, some 12, .bin .add (.t 9) (.t 11)⟩,
     ⟨none, some 13, .fld (.t 1) 5⟩,
     ⟨none, some 14, .ld (.t 13) none⟩,
     ⟨none, some 15, .bin .mul (.c (.int .i64 2)) (.t 14)⟩,
     ⟨none, some 16, .bin .add (.t 12) (.t 15)⟩,
     ⟨none, some 17, .bin .add (.t 16) (.c (.int .i64 1))⟩,
     ⟨none, some 18, .bin .lss (.t 7) (.t 17)⟩])
  (.cond (.t 18) (.seq (.region [⟨none, some 2, .asg (.c (.int .i64 120))⟩])
   (.ret))
   (.skip)))
 (.seq (.region [⟨none, some 2, .asg (.c (.int .i64 0))⟩])
 (.ret))))
theorem ref12_Accept.k : chkFn Go.Proofs.Try.prog 20 19 [.tmp 2] ref12_Accept.c = true := by kernel_rfl

/-- conclave/conclaveref12.Spare: function 18; parameters: api.Plan; results: int, int -/
def ref12_Spare.c : ACode :=
 .seq (.region [⟨none, some 1, .box (.t 0)⟩,
    ⟨none, some 2, .asg (.c (.int .i64 0))⟩,
    ⟨none, some 3, .asg (.c (.int .i64 0))⟩])
 (.seq (.seq (.region [⟨none, some 4, .ld (.t 1) (some 8)⟩,
     ⟨none, some 5, .call 10 [(.t 4)]⟩,
     ⟨none, some 6, .not (.t 5)⟩])
  (.cond (.t 6) (.seq (.region [⟨none, some 2, .asg (.c (.int .i64 0))⟩,
      ⟨none, some 3, .asg (.c (.int .i64 2))⟩])
   (.ret))
   (.skip)))
 (.seq (.draw [0, 1, 2, 4, 5, 7, 8, 9, 3, 6, 10, 11, 12, 13, 14] [(3, 2), (13, 1), (13, 2), (13, 5), (13, 8), (14, 1), (14, 2), (14, 5), (14, 8)] [⟨none, some 7, .fld (.t 1) 1⟩,
    ⟨none, some 8, .ld (.t 7) none⟩,
    ⟨none, some 9, .ld (.t 1) (some 8)⟩,
    ⟨none, some 10, .call 28 [(.t 9)]⟩,
    ⟨none, some 11, .fld (.t 1) 4⟩,
    ⟨none, some 12, .ld (.t 11) none⟩,
    ⟨none, some 13, .bin .add (.t 10) (.t 12)⟩,
    ⟨none, some 14, .fld (.t 1) 5⟩,
    ⟨none, some 15, .ld (.t 14) none⟩,
    ⟨none, some 16, .bin .mul (.c (.int .i64 2)) (.t 15)⟩,
    ⟨none, some 17, .bin .add (.t 13) (.t 16)⟩,
    ⟨none, some 18, .bin .add (.t 17) (.c (.int .i64 1))⟩,
    ⟨none, some 19, .bin .sub (.t 8) (.t 18)⟩,
    ⟨none, some 2, .asg (.t 19)⟩,
    ⟨none, some 3, .asg (.c (.int .i64 0))⟩])
 (.ret)))
theorem ref12_Spare.k : chkFn Go.Proofs.Try.prog 18 20 [.tmp 2, .tmp 3] ref12_Spare.c = true := by kernel_rfl

/-- conclave/conclaveref12.Widest: function 21; parameters: api.Plan; results: api.Plan, int -/
def ref12_Widest.c : ACode :=
 .seq (.region [⟨none, some 1, .box (.t 0)⟩,
    ⟨none, some 2, .alloc [.int .u8 0, .int .i64 0, .int .i64 0, .int .i64 0, .int .i64 0, .int .i64 0, .int .i64 0, .int .i64 0]⟩,
    ⟨none, some 3, .asg (.c (.int .i64 0))⟩])
 (.seq (.seq (.region [⟨none, some 6, .ld (.t 1) (some 8)⟩,
     ⟨none, some 7, .call 10 [(.t 6)]⟩,
     ⟨none, some 8, .not (.t 7)⟩])
  (.cond (.t 8) (.seq (.region [⟨none, some 9, .build [.int .u8 0, .int .i64 0, .int .i64 0, .int .i64 0, .int .i64 0, .int .i64 0, .int .i64 0, .int .i64 0] []⟩,
      ⟨none, none, .st (.t 2) (.t 9) 8⟩,
      ⟨none, some 3, .asg (.c (.int .i64 2))⟩])
   (.ret))
   (.skip)))
 (.seq (.region [⟨none, some 10, .build [.int .u8 0, .int .i64 0, .int .i64 0, .int .i64 0, .int .i64 0, .int .i64 0, .int .i64 0, .int .i64 0] []⟩,
    ⟨none, some 4, .alloc [.int .u8 0, .int .i64 0, .int .i64 0, .int .i64 0, .int .i64 0, .int .i64 0, .int .i64 0, .int .i64 0]⟩,
    ⟨none, none, .st (.t 4) (.t 10) 8⟩])
 (.seq (.seq (.region [⟨none, some 5, .asg (.c (.int .i64 1))⟩])
  (.block 0 (.loop (.seq (.seq (.region [⟨none, some 11, .mov (.t 5)⟩,
        ⟨none, some 12, .bin .leq (.t 11) (.c (.int .i64 64))⟩])
     (.cond (.t 12) (.skip)
      (.exit 0)))
    (.seq (.block 1 (.seq (.region [⟨none, some 15, .mov (.t 5)⟩,
         ⟨none, some 16, .fld (.t 1) 2⟩,
         ⟨none, none, .st (.t 16) (.t 15) 1⟩])
      (.seq (.region [⟨none, some 17, .ld (.t 1) (some 8)⟩,
         ⟨none, some 18, .call 20 [(.t 17)]⟩,
         ⟨none, some 19, .bin .eql (.t 18) (.c (.int .i64 0))⟩])
      (.cond (.t 19) (.region [⟨none, some 20, .ld (.t 1) (some 8)⟩,
         ⟨none, none, .st (.t 4) (.t 20) 8⟩])
       (.skip)))))
    (.region [⟨none, some 13, .mov (.t 5)⟩,
      ⟨none, some 14, .bin .add (.t 13) (.c (.int .i64 1))⟩,
      ⟨none, some 5, .asg (.t 14)⟩]))))))
 (.seq (.seq (.region [⟨none, some 21, .fld (.t 4) 2⟩,
     ⟨none, some 22, .ld (.t 21) none⟩,
     ⟨none, some 23, .bin .eql (.t 22) (.c (.int .i64 0))⟩])
  (.cond (.t 23) (.seq (.region [⟨none, some 24, .ld (.t 4) (some 8)⟩,
      ⟨none, none, .st (.t 2) (.t 24) 8⟩,
      ⟨none, some 3, .asg (.c (.int .i64 120))⟩])
   (.ret))
   (.skip)))
 (.seq (.region [⟨none, some 25, .ld (.t 4) (some 8)⟩,
    ⟨none, none, .st (.t 2) (.t 25) 8⟩,
    ⟨none, some 3, .asg (.c (.int .i64 0))⟩])
 (.ret))))))
abbrev ref12_Widest.D0 : List Nat := [5, 11, 12, 13, 14, 15, 16, 17, 18, 19, 20]
theorem ref12_Widest.k : chkFn Go.Proofs.Try.prog 21 26 [.cell 2 (some 8), .tmp 3] ref12_Widest.c = true := by kernel_rfl

/-- conclave/conclaveref12.Without: function 22; parameters: api.Plan, int; results: api.Plan, int -/
def ref12_Without.c : ACode :=
 .seq (.region [⟨none, some 2, .box (.t 0)⟩,
    ⟨none, some 4, .alloc [.int .u8 0, .int .i64 0, .int .i64 0, .int .i64 0, .int .i64 0, .int .i64 0, .int .i64 0, .int .i64 0]⟩,
    ⟨none, some 5, .asg (.c (.int .i64 0))⟩])
 (.seq (.seq (.region [⟨none, some 6, .ld (.t 2) (some 8)⟩,
     ⟨none, some 7, .call 10 [(.t 6)]⟩,
     ⟨none, some 8, .not (.t 7)⟩,
     ⟨none, some 9, .mov (.t 8)⟩,
     ⟨some (9, false), some 10, .mov (.t 1)⟩,
     ⟨some (9, false), some 11, .bin .lss (.t 10) (.c (.int .i64 0))⟩,
     ⟨none, some 12, .pick (.t 9) (.c (.bool true)) (.t 11)⟩,
     ⟨none, some 13, .mov (.t 12)⟩,
     ⟨some (13, false), some 14, .mov (.t 1)⟩,
     ⟨some (13, false), some 15, .fld (.t 2) 1⟩,
     ⟨some (13, false), some 16, .ld (.t 15) none⟩,
     ⟨some (13, false), some 17, .bin .geq (.t 14) (.t 16)⟩,
     ⟨none, some 18, .pick (.t 13) (.c (.bool true)) (.t 17)⟩])
  (.cond (.t 18) (.seq (.region [⟨none, some 19, .build [.int .u8 0, .int .i64 0, .int .i64 0, .int .i64 0, .int .i64 0, .int .i64 0, .int .i64 0, .int .i64 0] []⟩,
      ⟨none, none, .st (.t 4) (.t 19) 8⟩,
      ⟨none, some 5, .asg (.c (.int .i64 2))⟩])
   (.ret))
   (.skip)))
 (.seq (.region [⟨none, some 20, .fld (.t 2) 1⟩,
    ⟨none, some 21, .ld (.t 20) none⟩,
    ⟨none, some 22, .mov (.t 1)⟩,
    ⟨none, some 23, .bin .sub (.t 21) (.t 22)⟩,
    ⟨none, some 24, .fld (.t 2) 1⟩,
    ⟨none, none, .st (.t 24) (.t 23) 1⟩])
 (.seq (.region [⟨none, some 25, .fld (.t 2) 5⟩,
    ⟨none, some 26, .ld (.t 25) none⟩,
    ⟨none, some 27, .mov (.t 1)⟩,
    ⟨none, some 28, .bin .sub (.t 26) (.t 27)⟩,
    ⟨none, some 29, .mx (.c (.int .i64 0)) (.t 28)⟩,
    ⟨none, some 30, .fld (.t 2) 5⟩,
    ⟨none, none, .st (.t 30) (.t 29) 1⟩])
 (.seq (.region [⟨none, some 31, .ld (.t 2) (some 8)⟩,
    ⟨none, none, .st (.t 4) (.t 31) 8⟩,
    ⟨none, some 5, .asg (.c (.int .i64 0))⟩])
 (.ret)))))
theorem ref12_Without.k : chkFn Go.Proofs.Try.prog 22 32 [.cell 4 (some 8), .tmp 5] ref12_Without.c = true := by kernel_rfl

end Go.Proofs.Ytiionlbepecmjaa.C
