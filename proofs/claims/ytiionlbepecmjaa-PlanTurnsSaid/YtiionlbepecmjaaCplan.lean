import Derived.Test.YtiionlbepecmjaaAwalk
import Derived.Test.YtiionlbepecmjaaProg
import Derived.KernelRfl
namespace Go.Proofs.Ytiionlbepecmjaa.C
open Go Go.RowKit Go.Proofs.Ytiionlbepecmjaa.AL

/-- conclave/plan.within: function 27; parameters: int, int, int; results: bool -/
def plan_within.c : ACode :=
 .seq (.region [⟨none, some 6, .mov (.c (.bool false))⟩])
 (.seq (.region [⟨none, some 7, .mov (.t 0)⟩,
    ⟨none, some 8, .mov (.t 1)⟩,
    ⟨none, some 9, .bin .geq (.t 7) (.t 8)⟩,
    ⟨none, some 10, .mov (.t 9)⟩,
    ⟨some (10, true), some 11, .mov (.t 0)⟩,
    ⟨some (10, true), some 12, .mov (.t 2)⟩,
    ⟨some (10, true), some 13, .bin .leq (.t 11) (.t 12)⟩,
    ⟨none, some 14, .pick (.t 10) (.t 13) (.c (.bool false))⟩,
    ⟨none, some 6, .mov (.t 14)⟩])
 (.ret))
theorem plan_within.k : chkFn Go.Proofs.Try.prog 27 15 [.tmp 6] plan_within.c = true := by kernel_rfl

/-- conclave/plan.May: function 19; parameters: api.Plan; results: bool -/
def plan_May.c : ACode :=
 .seq (.region [⟨none, some 1, .box (.t 0)⟩,
    ⟨none, some 2, .mov (.c (.bool false))⟩])
 (.seq (.region [⟨none, some 3, .fld (.t 1) 0⟩,
    ⟨none, some 4, .ld (.t 3) none⟩,
    ⟨none, some 5, .bin .eql (.t 4) (.c (.int .u8 1))⟩,
    ⟨none, some 6, .mov (.t 5)⟩,
    ⟨some (6, false), some 7, .fld (.t 1) 0⟩,
    ⟨some (6, false), some 8, .ld (.t 7) none⟩,
    ⟨some (6, false), some 9, .bin .eql (.t 8) (.c (.int .u8 2))⟩,
    ⟨none, some 10, .pick (.t 6) (.c (.bool true)) (.t 9)⟩,
    ⟨none, some 11, .mov (.t 10)⟩,
    ⟨some (11, true), some 12, .fld (.t 1) 1⟩,
    ⟨some (11, true), some 13, .ld (.t 12) none⟩,
    ⟨some (11, true), some 14, .call 27 [(.t 13), (.c (.int .i64 1)), (.c (.int .i64 64))]⟩,
    ⟨none, some 15, .pick (.t 11) (.t 14) (.c (.bool false))⟩,
    ⟨none, some 16, .mov (.t 15)⟩,
    ⟨some (16, true), some 17, .fld (.t 1) 2⟩,
    ⟨some (16, true), some 18, .ld (.t 17) none⟩,
    ⟨some (16, true), some 19, .call 27 [(.t 18), (.c (.int .i64 1)), (.c (.int .i64 64))]⟩,
    ⟨none, some 20, .pick (.t 16) (.t 19) (.c (.bool false))⟩,
    ⟨none, some 21, .mov (.t 20)⟩,
    ⟨some (21, true), some 22, .fld (.t 1) 7⟩,
    ⟨some (21, true), some 23, .ld (.t 22) none⟩,
    ⟨some (21, true), some 24, .call 27 [(.t 23), (.c (.int .i64 1)), (.c (.int .i64 64))]⟩,
    ⟨none, some 25, .pick (.t 21) (.t 24) (.c (.bool false))⟩,
    ⟨none, some 26, .mov (.t 25)⟩,
    ⟨some (26, true), some 27, .fld (.t 1) 3⟩,
    ⟨some (26, true), some 28, .ld (.t 27) none⟩,
    ⟨some (26, true), some 29, .call 27 [(.t 28), (.c (.int .i64 0)), (.c (.int .i64 64))]⟩,
    ⟨none, some 30, .pick (.t 26) (.t 29) (.c (.bool false))⟩,
    ⟨none, some 31, .mov (.t 30)⟩,
    ⟨some (31, true), some 32, .fld (.t 1) 2⟩,
    ⟨some (31, true), some 33, .ld (.t 32) none⟩,
    ⟨some (31, true), some 34, .fld (.t 1) 3⟩,
    ⟨some (31, true), some 35, .ld (.t 34) none⟩,
    ⟨some (31, true), some 36, .bin .add (.t 33) (.t 35)⟩,
    ⟨some (31, true), some 37, .bin .leq (.t 36) (.c (.int .i64 64))⟩,
    ⟨none, some 38, .pick (.t 31) (.t 37) (.c (.bool false))⟩,
    ⟨none, some 39, .mov (.t 38)⟩,
    ⟨some (39, true), some 40, .fld (.t 1) 4⟩,
    ⟨some (39, true), some 41, .ld (.t 40) none⟩,
    ⟨some (39, true), some 42, .call 27 [(.t 41), (.c (.int .i64 0)), (.c (.int .i64 64))]⟩,
    ⟨none, some 43, .pick (.t 39) (.t 42) (.c (.bool false))⟩,
    ⟨none, some 44, .mov (.t 43)⟩,
    ⟨some (44, true), some 45, .fld (.t 1) 5⟩,
    ⟨some (44, true), some 46, .ld (.t 45) none⟩,
    ⟨some (44, true), some 47, .call 27 [(.t 46), (.c (.int .i64 0)), (.c (.int .i64 64))]⟩,
    ⟨none, some 48, .pick (.t 44) (.t 47) (.c (.bool false))⟩,
    ⟨none, some 49, .mov (.t 48)⟩,
    ⟨some (49, true), some 50, .fld (.t 1) 6⟩,
    ⟨some (49, true), some 51, .ld (.t 50) none⟩,
    ⟨some (49, true), some 52, .call 27 [(.t 51), (.c (.int .i64 0)), (.c (.int .i64 1024))]⟩,
    ⟨none, some 53, .pick (.t 49) (.t 52) (.c (.bool false))⟩,
    ⟨none, some 2, .mov (.t 53)⟩])
 (.ret))
theorem plan_May.k : chkFn Go.Proofs.Try.prog 19 54 [.tmp 2] plan_May.c = true := by kernel_rfl

/-- conclave/plan.degree: function 26; parameters: api.Plan; results: int -/
def plan_degree.c : ACode :=
 .seq (.region [⟨none, some 1, .box (.t 0)⟩,
    ⟨none, some 2, .mov (.c (.int .i64 0))⟩])
 (.seq (.region [⟨none, some 3, .fld (.t 1) 6⟩,
    ⟨none, some 4, .ld (.t 3) none⟩,
    ⟨none, some 5, .fld (.t 1) 2⟩,
    ⟨none, some 6, .ld (.t 5) none⟩,
    ⟨none, some 7, .fld (.t 1) 3⟩,
    ⟨none, some 8, .ld (.t 7) none⟩,
    ⟨none, some 9, .bin .add (.t 6) (.t 8)⟩,
    ⟨none, some 10, .bin .sub (.t 9) (.c (.int .i64 1))⟩,
    ⟨none, some 11, .bin .mul (.t 4) (.t 10)⟩,
    ⟨none, some 2, .mov (.t 11)⟩])
 (.ret))
theorem plan_degree.k : chkFn Go.Proofs.Try.prog 26 12 [.tmp 2] plan_degree.c = true := by kernel_rfl

/-- conclave/plan.spare: function 23; parameters: api.Plan; results: int -/
def plan_spare.c : ACode :=
 .seq (.region [⟨none, some 1, .box (.t 0)⟩,
    ⟨none, some 2, .mov (.c (.int .i64 0))⟩])
 (.seq (.draw [0, 1, 2, 4, 5, 7, 8, 9, 3, 6, 10, 11, 12, 13] [(3, 2), (13, 1), (13, 2), (13, 5), (13, 8)] [⟨none, some 3, .fld (.t 1) 1⟩,
    ⟨none, some 4, .ld (.t 3) none⟩,
    ⟨none, some 5, .ld (.t 1) (some 8)⟩,
    ⟨none, some 6, .call 26 [(.t 5)]⟩,
    ⟨none, some 7, .fld (.t 1) 4⟩,
    ⟨none, some 8, .ld (.t 7) none⟩,
    ⟨none, some 9, .bin .add (.t 6) (.t 8)⟩,
    ⟨none, some 10, .fld (.t 1) 5⟩,
    ⟨none, some 11, .ld (.t 10) none⟩,
    ⟨none, some 12, .bin .mul (.c (.int .i64 2)) (.t 11)⟩,
    ⟨none, some 13, .bin .add (.t 9) (.t 12)⟩,
    ⟨none, some 14, .bin .add (.t 13) (.c (.int .i64 1))⟩,
    ⟨none, some 15, .bin .sub (.t 4) (.t 14)⟩,
    ⟨none, some 2, .mov (.t 15)⟩])
 (.ret))
theorem plan_spare.k : chkFn Go.Proofs.Try.prog 23 16 [.tmp 2] plan_spare.c = true := by kernel_rfl

/-- conclave/plan.Degree: function 15; parameters: api.Plan; results: int, api.Errno -/
def plan_Degree.c : ACode :=
 .seq (.region [⟨none, some 1, .box (.t 0)⟩,
    ⟨none, some 2, .mov (.c (.int .i64 0))⟩,
    ⟨none, some 3, .mov (.c (.int .i64 0))⟩])
 (.seq (.seq (.region [⟨none, some 4, .ld (.t 1) (some 8)⟩,
     ⟨none, some 5, .call 19 [(.t 4)]⟩,
     ⟨none, some 6, .not (.t 5)⟩])
  (.cond (.t 6) (.seq (.region [⟨none, some 2, .mov (.c (.int .i64 0))⟩,
      ⟨none, some 3, .mov (.c (.int .i64 2))⟩])
   (.ret))
   (.skip)))
 (.seq (.region [⟨none, some 7, .ld (.t 1) (some 8)⟩,
    ⟨none, some 8, .call 26 [(.t 7)]⟩,
    ⟨none, some 2, .mov (.t 8)⟩,
    ⟨none, some 3, .mov (.c (.int .i64 0))⟩])
 (.ret)))
theorem plan_Degree.k : chkFn Go.Proofs.Try.prog 15 9 [.tmp 2, .tmp 3] plan_Degree.c = true := by kernel_rfl

/-- conclave/plan.Needed: function 11; parameters: api.Plan; results: int, api.Errno -/
def plan_Needed.c : ACode :=
 .seq (.region [⟨none, some 1, .box (.t 0)⟩,
    ⟨none, some 2, .mov (.c (.int .i64 0))⟩,
    ⟨none, some 3, .mov (.c (.int .i64 0))⟩])
 (.seq (.seq (.region [⟨none, some 4, .ld (.t 1) (some 8)⟩,
     ⟨none, some 5, .call 19 [(.t 4)]⟩,
     ⟨none, some 6, .not (.t 5)⟩])
  (.cond (.t 6) (.seq (.region [⟨none, some 2, .mov (.c (.int .i64 0))⟩,
      ⟨none, some 3, .mov (.c (.int .i64 2))⟩])
   (.ret))
   (.skip)))
 (.seq (.draw [0, 2, 3, 4, 1, 5, 6, 7, 8] [(1, 0), (7, 0), (7, 3), (8, 0), (8, 3)] [⟨none, some 7, .ld (.t 1) (some 8)⟩,
    ⟨none, some 8, .call 26 [(.t 7)]⟩,
    ⟨none, some 9, .fld (.t 1) 5⟩,
    ⟨none, some 10, .ld (.t 9) none⟩,
    ⟨none, some 11, .bin .mul (.c (.int .i64 2)) (.t 10)⟩,
    ⟨none, some 12, .bin .add (.t 8) (.t 11)⟩,
    ⟨none, some 13, .bin .add (.t 12) (.c (.int .i64 1))⟩,
    ⟨none, some 2, .mov (.t 13)⟩,
    ⟨none, some 3, .mov (.c (.int .i64 0))⟩])
 (.ret)))
theorem plan_Needed.k : chkFn Go.Proofs.Try.prog 11 14 [.tmp 2, .tmp 3] plan_Needed.c = true := by kernel_rfl

/-- conclave/plan.Accept: function 8; parameters: api.Plan; results: api.Errno -/
def plan_Accept.c : ACode :=
 .seq (.region [⟨none, some 1, .box (.t 0)⟩,
    ⟨none, some 2, .mov (.c (.int .i64 0))⟩])
 (.seq (.block 0 (.seq (.region [⟨none, some 4, .ld (.t 1) (some 8)⟩,
      ⟨none, some 5, .call 19 [(.t 4)]⟩,
      ⟨none, some 6, .not (.t 5)⟩,
      ⟨none, some 3, .mov (.t 6)⟩])
   (.cond (.t 3) (.seq (.region [⟨none, some 2, .mov (.c (.int .i64 2))⟩])
    (.ret))
    (.seq (.region [⟨none, some 8, .ld (.t 1) (some 8)⟩,
       ⟨none, some 9, .call 23 [(.t 8)]⟩,
       ⟨none, some 10, .bin .lss (.t 9) (.c (.int .i64 0))⟩,
       ⟨none, some 7, .mov (.t 10)⟩])
    (.cond (.t 7) (.seq (.region [⟨none, some 2, .mov (.c (.int .i64 120))⟩])
     (.ret))
     (.skip))))))
 (.seq (.region [⟨none, some 2, .mov (.c (.int .i64 0))⟩])
 (.ret)))
theorem plan_Accept.k : chkFn Go.Proofs.Try.prog 8 11 [.tmp 2] plan_Accept.c = true := by kernel_rfl

/-- conclave/plan.Spare: function 12; parameters: api.Plan; results: int, api.Errno -/
def plan_Spare.c : ACode :=
 .seq (.region [⟨none, some 1, .box (.t 0)⟩,
    ⟨none, some 2, .mov (.c (.int .i64 0))⟩,
    ⟨none, some 3, .mov (.c (.int .i64 0))⟩])
 (.seq (.seq (.region [⟨none, some 4, .ld (.t 1) (some 8)⟩,
     ⟨none, some 5, .call 19 [(.t 4)]⟩,
     ⟨none, some 6, .not (.t 5)⟩])
  (.cond (.t 6) (.seq (.region [⟨none, some 2, .mov (.c (.int .i64 0))⟩,
      ⟨none, some 3, .mov (.c (.int .i64 2))⟩])
   (.ret))
   (.skip)))
 (.seq (.region [⟨none, some 7, .ld (.t 1) (some 8)⟩,
    ⟨none, some 8, .call 23 [(.t 7)]⟩,
    ⟨none, some 2, .mov (.t 8)⟩,
    ⟨none, some 3, .mov (.c (.int .i64 0))⟩])
 (.ret)))
theorem plan_Spare.k : chkFn Go.Proofs.Try.prog 12 9 [.tmp 2, .tmp 3] plan_Spare.c = true := by kernel_rfl

/-- conclave/plan.Widest: function 14; parameters: api.Plan; results: api.Plan, api.Errno -/
def plan_Widest.c : ACode :=
 .seq (.region [⟨none, some 1, .box (.t 0)⟩,
    ⟨none, some 2, .alloc [.int .u8 0, .int .i64 0, .int .i64 0, .int .i64 0, .int .i64 0, .int .i64 0, .int .i64 0, .int .i64 0]⟩,
    ⟨none, some 3, .mov (.c (.int .i64 0))⟩])
 (.seq (.seq (.region [⟨none, some 4, .ld (.t 1) (some 8)⟩,
     ⟨none, some 5, .call 19 [(.t 4)]⟩,
     ⟨none, some 6, .not (.t 5)⟩])
  (.cond (.t 6) (.seq (.region [⟨none, some 7, .build [.int .u8 0, .int .i64 0, .int .i64 0, .int .i64 0, .int .i64 0, .int .i64 0, .int .i64 0, .int .i64 0] []⟩,
      ⟨none, none, .st (.t 2) (.t 7) 8⟩,
      ⟨none, some 3, .mov (.c (.int .i64 2))⟩])
   (.ret))
   (.skip)))
 (.seq (.seq (.region [⟨none, some 8, .fld (.t 1) 3⟩,
     ⟨none, some 9, .ld (.t 8) none⟩,
     ⟨none, some 10, .bin .sub (.c (.int .i64 64)) (.t 9)⟩,
     ⟨none, some 11, .fld (.t 1) 2⟩,
     ⟨none, none, .st (.t 11) (.t 10) 1⟩])
  (.block 0 (.loop (.seq (.seq (.region [⟨none, some 12, .fld (.t 1) 2⟩,
        ⟨none, some 13, .ld (.t 12) none⟩,
        ⟨none, some 14, .bin .geq (.t 13) (.c (.int .i64 1))⟩])
     (.cond (.t 14) (.skip)
      (.exit 0)))
    (.seq (.block 1 (.seq (.region [⟨none, some 19, .ld (.t 1) (some 8)⟩,
         ⟨none, some 20, .call 23 [(.t 19)]⟩,
         ⟨none, some 21, .bin .geq (.t 20) (.c (.int .i64 0))⟩])
      (.cond (.t 21) (.seq (.region [⟨none, some 22, .ld (.t 1) (some 8)⟩,
          ⟨none, none, .st (.t 2) (.t 22) 8⟩,
          ⟨none, some 3, .mov (.c (.int .i64 0))⟩])
       (.ret))
       (.skip))))
    (.region [⟨none, some 15, .fld (.t 1) 2⟩,
      ⟨none, some 16, .ld (.t 15) none⟩,
      ⟨none, some 17, .bin .sub (.t 16) (.c (.int .i64 1))⟩,
      ⟨none, some 18, .fld (.t 1) 2⟩,
      ⟨none, none, .st (.t 18) (.t 17) 1⟩]))))))
 (.seq (.region [⟨none, some 23, .build [.int .u8 0, .int .i64 0, .int .i64 0, .int .i64 0, .int .i64 0, .int .i64 0, .int .i64 0, .int .i64 0] []⟩,
    ⟨none, none, .st (.t 2) (.t 23) 8⟩,
    ⟨none, some 3, .mov (.c (.int .i64 120))⟩])
 (.ret))))
abbrev plan_Widest.D0 : List Nat := [3, 12, 13, 14, 15, 16, 17, 18, 19, 20, 21, 22]
theorem plan_Widest.k : chkFn Go.Proofs.Try.prog 14 24 [.cell 2 (some 8), .tmp 3] plan_Widest.c = true := by kernel_rfl

/-- conclave/plan.Without: function 13; parameters: api.Plan, int; results: api.Plan, api.Errno -/
def plan_Without.c : ACode :=
 .seq (.region [⟨none, some 2, .box (.t 0)⟩,
    ⟨none, some 4, .alloc [.int .u8 0, .int .i64 0, .int .i64 0, .int .i64 0, .int .i64 0, .int .i64 0, .int .i64 0, .int .i64 0]⟩,
    ⟨none, some 5, .mov (.c (.int .i64 0))⟩])
 (.seq (.seq (.region [⟨none, some 6, .ld (.t 2) (some 8)⟩,
     ⟨none, some 7, .call 19 [(.t 6)]⟩,
     ⟨none, some 8, .not (.t 7)⟩,
     ⟨none, some 9, .mov (.t 8)⟩,
     ⟨some (9, false), some 10, .mov (.t 1)⟩,
     ⟨some (9, false), some 11, .fld (.t 2) 1⟩,
     ⟨some (9, false), some 12, .ld (.t 11) none⟩,
     ⟨some (9, false), some 13, .bin .sub (.t 12) (.c (.int .i64 1))⟩,
     ⟨some (9, false), some 14, .call 27 [(.t 10), (.c (.int .i64 0)), (.t 13)]⟩,
     ⟨some (9, false), some 15, .not (.t 14)⟩,
     ⟨none, some 16, .pick (.t 9) (.c (.bool true)) (.t 15)⟩])
  (.cond (.t 16) (.seq (.region [⟨none, some 17, .build [.int .u8 0, .int .i64 0, .int .i64 0, .int .i64 0, .int .i64 0, .int .i64 0, .int .i64 0, .int .i64 0] []⟩,
      ⟨none, none, .st (.t 4) (.t 17) 8⟩,
      ⟨none, some 5, .mov (.c (.int .i64 2))⟩])
   (.ret))
   (.skip)))
 (.seq (.region [⟨none, some 18, .fld (.t 2) 1⟩,
    ⟨none, some 19, .ld (.t 18) none⟩,
    ⟨none, some 20, .mov (.t 1)⟩,
    ⟨none, some 21, .bin .sub (.t 19) (.t 20)⟩,
    ⟨none, some 22, .fld (.t 2) 5⟩,
    ⟨none, some 23, .ld (.t 22) none⟩,
    ⟨none, some 24, .mov (.t 1)⟩,
    ⟨none, some 25, .bin .sub (.t 23) (.t 24)⟩,
    ⟨none, some 26, .mx (.t 25) (.c (.int .i64 0))⟩,
    ⟨none, some 27, .fld (.t 2) 1⟩,
    ⟨none, none, .st (.t 27) (.t 21) 1⟩,
    ⟨none, some 28, .fld (.t 2) 5⟩,
    ⟨none, none, .st (.t 28) (.t 26) 1⟩])
 (.seq (.seq (.region [⟨none, some 29, .ld (.t 2) (some 8)⟩,
     ⟨none, some 30, .call 19 [(.t 29)]⟩,
     ⟨none, some 31, .not (.t 30)⟩])
  (.cond (.t 31) (.seq (.region [⟨none, some 32, .build [.int .u8 0, .int .i64 0, .int .i64 0, .int .i64 0, .int .i64 0, .int .i64 0, .int .i64 0, .int .i64 0] []⟩,
      ⟨none, none, .st (.t 4) (.t 32) 8⟩,
      ⟨none, some 5, .mov (.c (.int .i64 2))⟩])
   (.ret))
   (.skip)))
 (.seq (.region [⟨none, some 33, .ld (.t 2) (some 8)⟩,
    ⟨none, none, .st (.t 4) (.t 33) 8⟩,
    ⟨none, some 5, .mov (.c (.int .i64 0))⟩])
 (.ret)))))
theorem plan_Without.k : chkFn Go.Proofs.Try.prog 13 34 [.cell 4 (some 8), .tmp 5] plan_Without.c = true := by kernel_rfl

/-- conclave/conclaveref12.within: function 25; parameters: int, int, int; results: bool -/
def ref12_within.c : ACode :=
 .seq (.region [⟨none, some 6, .mov (.c (.bool false))⟩])
 (.seq (.region [⟨none, some 7, .mov (.t 0)⟩,
    ⟨none, some 8, .mov (.t 1)⟩,
    ⟨none, some 9, .bin .geq (.t 7) (.t 8)⟩,
    ⟨none, some 10, .mov (.t 9)⟩,
    ⟨some (10, true), some 11, .mov (.t 0)⟩,
    ⟨some (10, true), some 12, .mov (.t 2)⟩,
    ⟨some (10, true), some 13, .bin .leq (.t 11) (.t 12)⟩,
    ⟨none, some 14, .pick (.t 10) (.t 13) (.c (.bool false))⟩,
    ⟨none, some 6, .mov (.t 14)⟩])
 (.ret))
theorem ref12_within.k : chkFn Go.Proofs.Try.prog 25 15 [.tmp 6] ref12_within.c = true := by kernel_rfl

/-- conclave/conclaveref12.May: function 10; parameters: api.Plan; results: bool -/
def ref12_May.c : ACode :=
 .seq (.region [⟨none, some 1, .box (.t 0)⟩,
    ⟨none, some 2, .mov (.c (.bool false))⟩])
 (.seq (.region [⟨none, some 3, .fld (.t 1) 0⟩,
    ⟨none, some 4, .ld (.t 3) none⟩,
    ⟨none, some 5, .conv .i64 (.t 4)⟩,
    ⟨none, some 6, .call 25 [(.t 5), (.c (.int .i64 1)), (.c (.int .i64 2))]⟩,
    ⟨none, some 7, .mov (.t 6)⟩,
    ⟨some (7, true), some 8, .fld (.t 1) 1⟩,
    ⟨some (7, true), some 9, .ld (.t 8) none⟩,
    ⟨some (7, true), some 10, .call 25 [(.t 9), (.c (.int .i64 1)), (.c (.int .i64 64))]⟩,
    ⟨none, some 11, .pick (.t 7) (.t 10) (.c (.bool false))⟩,
    ⟨none, some 12, .mov (.t 11)⟩,
    ⟨some (12, true), some 13, .fld (.t 1) 2⟩,
    ⟨some (12, true), some 14, .ld (.t 13) none⟩,
    ⟨some (12, true), some 15, .call 25 [(.t 14), (.c (.int .i64 1)), (.c (.int .i64 64))]⟩,
    ⟨none, some 16, .pick (.t 12) (.t 15) (.c (.bool false))⟩,
    ⟨none, some 17, .mov (.t 16)⟩,
    ⟨some (17, true), some 18, .fld (.t 1) 7⟩,
    ⟨some (17, true), some 19, .ld (.t 18) none⟩,
    ⟨some (17, true), some 20, .call 25 [(.t 19), (.c (.int .i64 1)), (.c (.int .i64 64))]⟩,
    ⟨none, some 21, .pick (.t 17) (.t 20) (.c (.bool false))⟩,
    ⟨none, some 22, .mov (.t 21)⟩,
    ⟨some (22, true), some 23, .fld (.t 1) 3⟩,
    ⟨some (22, true), some 24, .ld (.t 23) none⟩,
    ⟨some (22, true), some 25, .fld (.t 1) 2⟩,
    ⟨some (22, true), some 26, .ld (.t 25) none⟩,
    ⟨some (22, true), some 27, .bin .sub (.c (.int .i64 64)) (.t 26)⟩,
    ⟨some (22, true), some 28, .call 25 [(.t 24), (.c (.int .i64 0)), (.t 27)]⟩,
    ⟨none, some 29, .pick (.t 22) (.t 28) (.c (.bool false))⟩,
    ⟨none, some 30, .mov (.t 29)⟩,
    ⟨some (30, true), some 31, .fld (.t 1) 4⟩,
    ⟨some (30, true), some 32, .ld (.t 31) none⟩,
    ⟨some (30, true), some 33, .call 25 [(.t 32), (.c (.int .i64 0)), (.c (.int .i64 64))]⟩,
    ⟨none, some 34, .pick (.t 30) (.t 33) (.c (.bool false))⟩,
    ⟨none, some 35, .mov (.t 34)⟩,
    ⟨some (35, true), some 36, .fld (.t 1) 5⟩,
    ⟨some (35, true), some 37, .ld (.t 36) none⟩,
    ⟨some (35, true), some 38, .call 25 [(.t 37), (.c (.int .i64 0)), (.c (.int .i64 64))]⟩,
    ⟨none, some 39, .pick (.t 35) (.t 38) (.c (.bool false))⟩,
    ⟨none, some 40, .mov (.t 39)⟩,
    ⟨some (40, true), some 41, .fld (.t 1) 6⟩,
    ⟨some (40, true), some 42, .ld (.t 41) none⟩,
    ⟨some (40, true), some 43, .call 25 [(.t 42), (.c (.int .i64 0)), (.c (.int .i64 1024))]⟩,
    ⟨none, some 44, .pick (.t 40) (.t 43) (.c (.bool false))⟩,
    ⟨none, some 2, .mov (.t 44)⟩])
 (.ret))
theorem ref12_May.k : chkFn Go.Proofs.Try.prog 10 45 [.tmp 2] ref12_May.c = true := by kernel_rfl

/-- conclave/conclaveref12.D: function 28; parameters: api.Plan; results: int -/
def ref12_D.c : ACode :=
 .seq (.region [⟨none, some 1, .box (.t 0)⟩,
    ⟨none, some 2, .mov (.c (.int .i64 0))⟩])
 (.seq (.region [⟨none, some 3, .fld (.t 1) 6⟩,
    ⟨none, some 4, .ld (.t 3) none⟩,
    ⟨none, some 5, .fld (.t 1) 2⟩,
    ⟨none, some 6, .ld (.t 5) none⟩,
    ⟨none, some 7, .fld (.t 1) 3⟩,
    ⟨none, some 8, .ld (.t 7) none⟩,
    ⟨none, some 9, .bin .add (.t 6) (.t 8)⟩,
    ⟨none, some 10, .bin .sub (.t 9) (.c (.int .i64 1))⟩,
    ⟨none, some 11, .bin .mul (.t 4) (.t 10)⟩,
    ⟨none, some 2, .mov (.t 11)⟩])
 (.ret))
theorem ref12_D.k : chkFn Go.Proofs.Try.prog 28 12 [.tmp 2] ref12_D.c = true := by kernel_rfl

/-- conclave/conclaveref12.Degree: function 16; parameters: api.Plan; results: int, int -/
def ref12_Degree.c : ACode :=
 .seq (.region [⟨none, some 1, .box (.t 0)⟩,
    ⟨none, some 2, .mov (.c (.int .i64 0))⟩,
    ⟨none, some 3, .mov (.c (.int .i64 0))⟩])
 (.seq (.seq (.region [⟨none, some 4, .ld (.t 1) (some 8)⟩,
     ⟨none, some 5, .call 10 [(.t 4)]⟩,
     ⟨none, some 6, .not (.t 5)⟩])
  (.cond (.t 6) (.seq (.region [⟨none, some 2, .mov (.c (.int .i64 0))⟩,
      ⟨none, some 3, .mov (.c (.int .i64 2))⟩])
   (.ret))
   (.skip)))
 (.seq (.region [⟨none, some 7, .ld (.t 1) (some 8)⟩,
    ⟨none, some 8, .call 28 [(.t 7)]⟩,
    ⟨none, some 2, .mov (.t 8)⟩,
    ⟨none, some 3, .mov (.c (.int .i64 0))⟩])
 (.ret)))
theorem ref12_Degree.k : chkFn Go.Proofs.Try.prog 16 9 [.tmp 2, .tmp 3] ref12_Degree.c = true := by kernel_rfl

/-- conclave/conclaveref12.Needed: function 17; parameters: api.Plan; results: int, int -/
def ref12_Needed.c : ACode :=
 .seq (.region [⟨none, some 1, .box (.t 0)⟩,
    ⟨none, some 2, .mov (.c (.int .i64 0))⟩,
    ⟨none, some 3, .mov (.c (.int .i64 0))⟩])
 (.seq (.seq (.region [⟨none, some 4, .ld (.t 1) (some 8)⟩,
     ⟨none, some 5, .call 10 [(.t 4)]⟩,
     ⟨none, some 6, .not (.t 5)⟩])
  (.cond (.t 6) (.seq (.region [⟨none, some 2, .mov (.c (.int .i64 0))⟩,
      ⟨none, some 3, .mov (.c (.int .i64 2))⟩])
   (.ret))
   (.skip)))
 (.seq (.draw [0, 2, 3, 4, 1, 5, 6, 7, 8] [(1, 0), (7, 0), (7, 3), (8, 0), (8, 3)] [⟨none, some 7, .ld (.t 1) (some 8)⟩,
    ⟨none, some 8, .call 28 [(.t 7)]⟩,
    ⟨none, some 9, .fld (.t 1) 5⟩,
    ⟨none, some 10, .ld (.t 9) none⟩,
    ⟨none, some 11, .bin .mul (.c (.int .i64 2)) (.t 10)⟩,
    ⟨none, some 12, .bin .add (.t 8) (.t 11)⟩,
    ⟨none, some 13, .bin .add (.t 12) (.c (.int .i64 1))⟩,
    ⟨none, some 2, .mov (.t 13)⟩,
    ⟨none, some 3, .mov (.c (.int .i64 0))⟩])
 (.ret)))
theorem ref12_Needed.k : chkFn Go.Proofs.Try.prog 17 14 [.tmp 2, .tmp 3] ref12_Needed.c = true := by kernel_rfl

/-- conclave/conclaveref12.Accept: function 20; parameters: api.Plan; results: int -/
def ref12_Accept.c : ACode :=
 .seq (.region [⟨none, some 1, .box (.t 0)⟩,
    ⟨none, some 2, .mov (.c (.int .i64 0))⟩])
 (.seq (.seq (.region [⟨none, some 3, .ld (.t 1) (some 8)⟩,
     ⟨none, some 4, .call 10 [(.t 3)]⟩,
     ⟨none, some 5, .not (.t 4)⟩])
  (.cond (.t 5) (.seq (.region [⟨none, some 2, .mov (.c (.int .i64 2))⟩])
   (.ret))
   (.skip)))
 (.seq (.seq (.draw [0, 1, 2, 4, 5, 7, 8, 9, 3, 6, 10, 11, 12] [(3, 2)] [⟨none, some 6, .fld (.t 1) 1⟩,
     ⟨none, some 7, .ld (.t 6) none⟩,
     ⟨none, some 8, .ld (.t 1) (some 8)⟩,
     ⟨none, some 9, .call 28 [(.t 8)]⟩,
     ⟨none, some 10, .fld (.t 1) 4⟩,
     ⟨none, some 11, .ld (.t 10) none⟩,
     ⟨none, some 12, .bin .add (.t 9) (.t 11)⟩,
     ⟨none, some 13, .fld (.t 1) 5⟩,
     ⟨none, some 14, .ld (.t 13) none⟩,
     ⟨none, some 15, .bin .mul (.c (.int .i64 2)) (.t 14)⟩,
     ⟨none, some 16, .bin .add (.t 12) (.t 15)⟩,
     ⟨none, some 17, .bin .add (.t 16) (.c (.int .i64 1))⟩,
     ⟨none, some 18, .bin .lss (.t 7) (.t 17)⟩])
  (.cond (.t 18) (.seq (.region [⟨none, some 2, .mov (.c (.int .i64 120))⟩])
   (.ret))
   (.skip)))
 (.seq (.region [⟨none, some 2, .mov (.c (.int .i64 0))⟩])
 (.ret))))
theorem ref12_Accept.k : chkFn Go.Proofs.Try.prog 20 19 [.tmp 2] ref12_Accept.c = true := by kernel_rfl

/-- conclave/conclaveref12.Spare: function 18; parameters: api.Plan; results: int, int -/
def ref12_Spare.c : ACode :=
 .seq (.region [⟨none, some 1, .box (.t 0)⟩,
    ⟨none, some 2, .mov (.c (.int .i64 0))⟩,
    ⟨none, some 3, .mov (.c (.int .i64 0))⟩])
 (.seq (.seq (.region [⟨none, some 4, .ld (.t 1) (some 8)⟩,
     ⟨none, some 5, .call 10 [(.t 4)]⟩,
     ⟨none, some 6, .not (.t 5)⟩])
  (.cond (.t 6) (.seq (.region [⟨none, some 2, .mov (.c (.int .i64 0))⟩,
      ⟨none, some 3, .mov (.c (.int .i64 2))⟩])
   (.ret))
   (.skip)))
 (.seq (.draw [0, 1, 2, 4, 5, 7, 8, 9, 3, 6, 10, 11, 12, 13, 14] [(3, 2), (13, 1), (13, 2), (13, 5), (13, 8), (14, 1), (14, 2), (14, 5), (14, 8)] [⟨none, some 7, .fld (.t 1) 1⟩,
    ⟨none, some 8, .ld (.t 7) none⟩,
    ⟨none, some 9, .ld (.t 1) (some 8)⟩,
    ⟨none, some 10, .call 28 [(.t 9)]⟩,
    ⟨none, some 11, .fld (.t 1) 4⟩,
    ⟨none, some 12, .ld (.t 11) none⟩,
    ⟨none, some 13, .bin .add (.t 10) (.t 12)⟩,
    ⟨none, some 14, .fld (.t 1) 5⟩,
    ⟨none, some 15, .ld (.t 14) none⟩,
    ⟨none, some 16, .bin .mul (.c (.int .i64 2)) (.t 15)⟩,
    ⟨none, some 17, .bin .add (.t 13) (.t 16)⟩,
    ⟨none, some 18, .bin .add (.t 17) (.c (.int .i64 1))⟩,
    ⟨none, some 19, .bin .sub (.t 8) (.t 18)⟩,
    ⟨none, some 2, .mov (.t 19)⟩,
    ⟨none, some 3, .mov (.c (.int .i64 0))⟩])
 (.ret)))
theorem ref12_Spare.k : chkFn Go.Proofs.Try.prog 18 20 [.tmp 2, .tmp 3] ref12_Spare.c = true := by kernel_rfl

/-- conclave/conclaveref12.Widest: function 21; parameters: api.Plan; results: api.Plan, int -/
def ref12_Widest.c : ACode :=
 .seq (.region [⟨none, some 1, .box (.t 0)⟩,
    ⟨none, some 2, .alloc [.int .u8 0, .int .i64 0, .int .i64 0, .int .i64 0, .int .i64 0, .int .i64 0, .int .i64 0, .int .i64 0]⟩,
    ⟨none, some 3, .mov (.c (.int .i64 0))⟩])
 (.seq (.seq (.region [⟨none, some 6, .ld (.t 1) (some 8)⟩,
     ⟨none, some 7, .call 10 [(.t 6)]⟩,
     ⟨none, some 8, .not (.t 7)⟩])
  (.cond (.t 8) (.seq (.region [⟨none, some 9, .build [.int .u8 0, .int .i64 0, .int .i64 0, .int .i64 0, .int .i64 0, .int .i64 0, .int .i64 0, .int .i64 0] []⟩,
      ⟨none, none, .st (.t 2) (.t 9) 8⟩,
      ⟨none, some 3, .mov (.c (.int .i64 2))⟩])
   (.ret))
   (.skip)))
 (.seq (.region [⟨none, some 10, .build [.int .u8 0, .int .i64 0, .int .i64 0, .int .i64 0, .int .i64 0, .int .i64 0, .int .i64 0, .int .i64 0] []⟩,
    ⟨none, some 4, .alloc [.int .u8 0, .int .i64 0, .int .i64 0, .int .i64 0, .int .i64 0, .int .i64 0, .int .i64 0, .int .i64 0]⟩,
    ⟨none, none, .st (.t 4) (.t 10) 8⟩])
 (.seq (.seq (.region [⟨none, some 5, .mov (.c (.int .i64 1))⟩])
  (.block 0 (.loop (.seq (.seq (.region [⟨none, some 11, .mov (.t 5)⟩,
        ⟨none, some 12, .bin .leq (.t 11) (.c (.int .i64 64))⟩])
     (.cond (.t 12) (.skip)
      (.exit 0)))
    (.seq (.block 1 (.seq (.region [⟨none, some 15, .mov (.t 5)⟩,
         ⟨none, some 16, .fld (.t 1) 2⟩,
         ⟨none, none, .st (.t 16) (.t 15) 1⟩])
      (.seq (.region [⟨none, some 17, .ld (.t 1) (some 8)⟩,
         ⟨none, some 18, .call 20 [(.t 17)]⟩,
         ⟨none, some 19, .bin .eql (.t 18) (.c (.int .i64 0))⟩])
      (.cond (.t 19) (.region [⟨none, some 20, .ld (.t 1) (some 8)⟩,
         ⟨none, none, .st (.t 4) (.t 20) 8⟩])
       (.skip)))))
    (.region [⟨none, some 13, .mov (.t 5)⟩,
      ⟨none, some 14, .bin .add (.t 13) (.c (.int .i64 1))⟩,
      ⟨none, some 5, .mov (.t 14)⟩]))))))
 (.seq (.seq (.region [⟨none, some 21, .fld (.t 4) 2⟩,
     ⟨none, some 22, .ld (.t 21) none⟩,
     ⟨none, some 23, .bin .eql (.t 22) (.c (.int .i64 0))⟩])
  (.cond (.t 23) (.seq (.region [⟨none, some 24, .ld (.t 4) (some 8)⟩,
      ⟨none, none, .st (.t 2) (.t 24) 8⟩,
      ⟨none, some 3, .mov (.c (.int .i64 120))⟩])
   (.ret))
   (.skip)))
 (.seq (.region [⟨none, some 25, .ld (.t 4) (some 8)⟩,
    ⟨none, none, .st (.t 2) (.t 25) 8⟩,
    ⟨none, some 3, .mov (.c (.int .i64 0))⟩])
 (.ret))))))
abbrev ref12_Widest.D0 : List Nat := [5, 11, 12, 13, 14, 15, 16, 17, 18, 19, 20]
theorem ref12_Widest.k : chkFn Go.Proofs.Try.prog 21 26 [.cell 2 (some 8), .tmp 3] ref12_Widest.c = true := by kernel_rfl

/-- conclave/conclaveref12.Without: function 22; parameters: api.Plan, int; results: api.Plan, int -/
def ref12_Without.c : ACode :=
 .seq (.region [⟨none, some 2, .box (.t 0)⟩,
    ⟨none, some 4, .alloc [.int .u8 0, .int .i64 0, .int .i64 0, .int .i64 0, .int .i64 0, .int .i64 0, .int .i64 0, .int .i64 0]⟩,
    ⟨none, some 5, .mov (.c (.int .i64 0))⟩])
 (.seq (.seq (.region [⟨none, some 6, .ld (.t 2) (some 8)⟩,
     ⟨none, some 7, .call 10 [(.t 6)]⟩,
     ⟨none, some 8, .not (.t 7)⟩,
     ⟨none, some 9, .mov (.t 8)⟩,
     ⟨some (9, false), some 10, .mov (.t 1)⟩,
     ⟨some (9, false), some 11, .bin .lss (.t 10) (.c (.int .i64 0))⟩,
     ⟨none, some 12, .pick (.t 9) (.c (.bool true)) (.t 11)⟩,
     ⟨none, some 13, .mov (.t 12)⟩,
     ⟨some (13, false), some 14, .mov (.t 1)⟩,
     ⟨some (13, false), some 15, .fld (.t 2) 1⟩,
     ⟨some (13, false), some 16, .ld (.t 15) none⟩,
     ⟨some (13, false), some 17, .bin .geq (.t 14) (.t 16)⟩,
     ⟨none, some 18, .pick (.t 13) (.c (.bool true)) (.t 17)⟩])
  (.cond (.t 18) (.seq (.region [⟨none, some 19, .build [.int .u8 0, .int .i64 0, .int .i64 0, .int .i64 0, .int .i64 0, .int .i64 0, .int .i64 0, .int .i64 0] []⟩,
      ⟨none, none, .st (.t 4) (.t 19) 8⟩,
      ⟨none, some 5, .mov (.c (.int .i64 2))⟩])
   (.ret))
   (.skip)))
 (.seq (.region [⟨none, some 20, .fld (.t 2) 1⟩,
    ⟨none, some 21, .ld (.t 20) none⟩,
    ⟨none, some 22, .mov (.t 1)⟩,
    ⟨none, some 23, .bin .sub (.t 21) (.t 22)⟩,
    ⟨none, some 24, .fld (.t 2) 1⟩,
    ⟨none, none, .st (.t 24) (.t 23) 1⟩])
 (.seq (.region [⟨none, some 25, .fld (.t 2) 5⟩,
    ⟨none, some 26, .ld (.t 25) none⟩,
    ⟨none, some 27, .mov (.t 1)⟩,
    ⟨none, some 28, .bin .sub (.t 26) (.t 27)⟩,
    ⟨none, some 29, .mx (.c (.int .i64 0)) (.t 28)⟩,
    ⟨none, some 30, .fld (.t 2) 5⟩,
    ⟨none, none, .st (.t 30) (.t 29) 1⟩])
 (.seq (.region [⟨none, some 31, .ld (.t 2) (some 8)⟩,
    ⟨none, none, .st (.t 4) (.t 31) 8⟩,
    ⟨none, some 5, .mov (.c (.int .i64 0))⟩])
 (.ret)))))
theorem ref12_Without.k : chkFn Go.Proofs.Try.prog 22 32 [.cell 4 (some 8), .tmp 5] ref12_Without.c = true := by kernel_rfl

/-- conclave/conclavelaw12.eleven: function 24; parameters: ; results: api.Plan -/
def law12_eleven.c : ACode :=
 .seq (.region [⟨none, some 0, .alloc [.int .u8 0, .int .i64 0, .int .i64 0, .int .i64 0, .int .i64 0, .int .i64 0, .int .i64 0, .int .i64 0]⟩])
 (.seq (.region [⟨none, some 1, .build [.int .u8 0, .int .i64 0, .int .i64 0, .int .i64 0, .int .i64 0, .int .i64 0, .int .i64 0, .int .i64 0] [(0, 1, (.c (.int .u8 1))), (1, 1, (.c (.int .i64 11))), (2, 1, (.c (.int .i64 3))), (3, 1, (.c (.int .i64 1))), (5, 1, (.c (.int .i64 2))), (6, 1, (.c (.int .i64 2))), (7, 1, (.c (.int .i64 1)))]⟩,
    ⟨none, none, .st (.t 0) (.t 1) 8⟩])
 (.ret))
theorem law12_eleven.k : chkFn Go.Proofs.Try.prog 24 2 [.cell 0 (some 8)] law12_eleven.c = true := by kernel_rfl

/-- conclave/conclavelaw12.anchored: function 9; parameters: ; results: bool -/
def law12_anchored.c : ACode :=
 .seq (.region [⟨none, some 0, .mov (.c (.bool false))⟩])
 (.seq (.region [⟨none, some 5, .call 24 []⟩,
    ⟨none, some 1, .alloc [.int .u8 0, .int .i64 0, .int .i64 0, .int .i64 0, .int .i64 0, .int .i64 0, .int .i64 0, .int .i64 0]⟩,
    ⟨none, none, .st (.t 1) (.t 5) 8⟩])
 (.seq (.region [⟨none, some 6, .ld (.t 1) (some 8)⟩,
    ⟨none, some 7, .call 8 [(.t 6)]⟩,
    ⟨none, some 2, .mov (.t 7)⟩])
 (.seq (.region [⟨none, some 8, .fld (.t 1) 4⟩,
    ⟨none, none, .st (.t 8) (.c (.int .i64 1)) 1⟩])
 (.seq (.region [⟨none, some 10, .ld (.t 1) (some 8)⟩,
    ⟨none, some 11, .call 11 [(.t 10)]⟩,
    ⟨none, some 9, .mov (.t 11)⟩,
    ⟨none, some 12, .ext (.t 9) 0⟩,
    ⟨none, some 13, .ext (.t 9) 1⟩,
    ⟨none, some 3, .mov (.t 12)⟩,
    ⟨none, some 4, .mov (.t 13)⟩])
 (.seq (.region [⟨none, some 14, .mov (.t 2)⟩,
    ⟨none, some 15, .bin .eql (.t 14) (.c (.int .i64 0))⟩,
    ⟨none, some 16, .mov (.t 15)⟩,
    ⟨some (16, true), some 17, .mov (.t 4)⟩,
    ⟨some (16, true), some 18, .bin .eql (.t 17) (.c (.int .i64 0))⟩,
    ⟨none, some 19, .pick (.t 16) (.t 18) (.c (.bool false))⟩,
    ⟨none, some 20, .mov (.t 19)⟩,
    ⟨some (20, true), some 21, .mov (.t 3)⟩,
    ⟨some (20, true), some 22, .bin .eql (.t 21) (.c (.int .i64 11))⟩,
    ⟨none, some 23, .pick (.t 20) (.t 22) (.c (.bool false))⟩,
    ⟨none, some 24, .mov (.t 23)⟩,
    ⟨some (24, true), some 25, .ld (.t 1) (some 8)⟩,
    ⟨some (24, true), some 26, .call 8 [(.t 25)]⟩,
    ⟨some (24, true), some 27, .bin .eql (.t 26) (.c (.int .i64 120))⟩,
    ⟨none, some 28, .pick (.t 24) (.t 27) (.c (.bool false))⟩,
    ⟨none, some 0, .mov (.t 28)⟩])
 (.ret))))))
theorem law12_anchored.k : chkFn Go.Proofs.Try.prog 9 29 [.tmp 0] law12_anchored.c = true := by kernel_rfl

/-- conclave/conclavelaw12.PlanTurns: function 7; parameters: api.Plan, int; results: bool -/
def law12_PlanTurns.c : ACode :=
 .seq (.region [⟨none, some 2, .box (.t 0)⟩,
    ⟨none, some 4, .mov (.c (.bool false))⟩])
 (.seq (.region [⟨none, some 14, .ld (.t 2) (some 8)⟩,
    ⟨none, some 15, .call 14 [(.t 14)]⟩,
    ⟨none, some 13, .mov (.t 15)⟩,
    ⟨none, some 16, .ext (.t 13) 0⟩,
    ⟨none, some 17, .ext (.t 13) 1⟩,
    ⟨none, some 5, .alloc [.int .u8 0, .int .i64 0, .int .i64 0, .int .i64 0, .int .i64 0, .int .i64 0, .int .i64 0, .int .i64 0]⟩,
    ⟨none, none, .st (.t 5) (.t 16) 8⟩,
    ⟨none, some 6, .mov (.t 17)⟩])
 (.seq (.region [⟨none, some 19, .ld (.t 2) (some 8)⟩,
    ⟨none, some 20, .call 21 [(.t 19)]⟩,
    ⟨none, some 18, .mov (.t 20)⟩,
    ⟨none, some 21, .ext (.t 18) 0⟩,
    ⟨none, some 22, .ext (.t 18) 1⟩,
    ⟨none, some 7, .alloc [.int .u8 0, .int .i64 0, .int .i64 0, .int .i64 0, .int .i64 0, .int .i64 0, .int .i64 0, .int .i64 0]⟩,
    ⟨none, none, .st (.t 7) (.t 21) 8⟩,
    ⟨none, some 8, .mov (.t 22)⟩])
 (.seq (.region [⟨none, some 24, .ld (.t 2) (some 8)⟩,
    ⟨none, some 25, .mov (.t 1)⟩,
    ⟨none, some 26, .call 13 [(.t 24), (.t 25)]⟩,
    ⟨none, some 23, .mov (.t 26)⟩,
    ⟨none, some 27, .ext (.t 23) 0⟩,
    ⟨none, some 28, .ext (.t 23) 1⟩,
    ⟨none, some 9, .alloc [.int .u8 0, .int .i64 0, .int .i64 0, .int .i64 0, .int .i64 0, .int .i64 0, .int .i64 0, .int .i64 0]⟩,
    ⟨none, none, .st (.t 9) (.t 27) 8⟩,
    ⟨none, some 10, .mov (.t 28)⟩])
 (.seq (.region [⟨none, some 30, .ld (.t 2) (some 8)⟩,
    ⟨none, some 31, .mov (.t 1)⟩,
    ⟨none, some 32, .call 22 [(.t 30), (.t 31)]⟩,
    ⟨none, some 29, .mov (.t 32)⟩,
    ⟨none, some 33, .ext (.t 29) 0⟩,
    ⟨none, some 34, .ext (.t 29) 1⟩,
    ⟨none, some 11, .alloc [.int .u8 0, .int .i64 0, .int .i64 0, .int .i64 0, .int .i64 0, .int .i64 0, .int .i64 0, .int .i64 0]⟩,
    ⟨none, none, .st (.t 11) (.t 33) 8⟩,
    ⟨none, some 12, .mov (.t 34)⟩])
 (.seq (.region [⟨none, some 35, .ld (.t 5) (some 8)⟩,
    ⟨none, some 36, .ld (.t 7) (some 8)⟩,
    ⟨none, some 37, .eq (.flat [1, 1, 1, 1, 1, 1, 1, 1]) false (.t 35) (.t 36)⟩,
    ⟨none, some 38, .mov (.t 37)⟩,
    ⟨some (38, true), some 39, .mov (.t 6)⟩,
    ⟨some (38, true), some 40, .mov (.t 8)⟩,
    ⟨some (38, true), some 41, .bin .eql (.t 39) (.t 40)⟩,
    ⟨none, some 42, .pick (.t 38) (.t 41) (.c (.bool false))⟩,
    ⟨none, some 43, .mov (.t 42)⟩,
    ⟨some (43, true), some 44, .ld (.t 9) (some 8)⟩,
    ⟨some (43, true), some 45, .ld (.t 11) (some 8)⟩,
    ⟨some (43, true), some 46, .eq (.flat [1, 1, 1, 1, 1, 1, 1, 1]) false (.t 44) (.t 45)⟩,
    ⟨none, some 47, .pick (.t 43) (.t 46) (.c (.bool false))⟩,
    ⟨none, some 48, .mov (.t 47)⟩,
    ⟨some (48, true), some 49, .mov (.t 10)⟩,
    ⟨some (48, true), some 50, .mov (.t 12)⟩,
    ⟨some (48, true), some 51, .bin .eql (.t 49) (.t 50)⟩,
    ⟨none, some 52, .pick (.t 48) (.t 51) (.c (.bool false))⟩,
    ⟨none, some 53, .mov (.t 52)⟩,
    ⟨some (53, true), some 54, .call 9 []⟩,
    ⟨none, some 55, .pick (.t 53) (.t 54) (.c (.bool false))⟩,
    ⟨none, some 4, .mov (.t 55)⟩])
 (.ret))))))
theorem law12_PlanTurns.k : chkFn Go.Proofs.Try.prog 7 56 [.tmp 4] law12_PlanTurns.c = true := by kernel_rfl

/-- conclave/conclavelaw12.PlanEasier: function 3; parameters: api.Plan; results: bool -/
def law12_PlanEasier.c : ACode :=
 .seq (.region [⟨none, some 1, .box (.t 0)⟩,
    ⟨none, some 2, .mov (.c (.bool false))⟩])
 (.seq (.seq (.region [⟨none, some 10, .ld (.t 1) (some 8)⟩,
     ⟨none, some 11, .call 8 [(.t 10)]⟩,
     ⟨none, some 12, .bin .neq (.t 11) (.c (.int .i64 0))⟩])
  (.cond (.t 12) (.seq (.region [⟨none, some 13, .call 9 []⟩,
      ⟨none, some 2, .mov (.t 13)⟩])
   (.ret))
   (.skip)))
 (.seq (.region [⟨none, some 14, .ld (.t 1) (some 8)⟩,
    ⟨none, some 15, .ld (.t 1) (some 8)⟩,
    ⟨none, some 16, .ld (.t 1) (some 8)⟩,
    ⟨none, some 17, .ld (.t 1) (some 8)⟩,
    ⟨none, some 18, .ld (.t 1) (some 8)⟩,
    ⟨none, some 19, .ld (.t 1) (some 8)⟩,
    ⟨none, some 20, .build [.int .u8 0, .int .i64 0, .int .i64 0, .int .i64 0, .int .i64 0, .int .i64 0, .int .i64 0, .int .i64 0, .int .u8 0, .int .i64 0, .int .i64 0, .int .i64 0, .int .i64 0, .int .i64 0, .int .i64 0, .int .i64 0, .int .u8 0, .int .i64 0, .int .i64 0, .int .i64 0, .int .i64 0, .int .i64 0, .int .i64 0, .int .i64 0, .int .u8 0, .int .i64 0, .int .i64 0, .int .i64 0, .int .i64 0, .int .i64 0, .int .i64 0, .int .i64 0, .int .u8 0, .int .i64 0, .int .i64 0, .int .i64 0, .int .i64 0, .int .i64 0, .int .i64 0, .int .i64 0, .int .u8 0, .int .i64 0, .int .i64 0, .int .i64 0, .int .i64 0, .int .i64 0, .int .i64 0, .int .i64 0] [(0, 8, (.t 14)), (8, 8, (.t 15)), (16, 8, (.t 16)), (24, 8, (.t 17)), (32, 8, (.t 18)), (40, 8, (.t 19))]⟩,
    ⟨none, some 3, .alloc [.int .u8 0, .int .i64 0, .int .i64 0, .int .i64 0, .int .i64 0, .int .i64 0, .int .i64 0, .int .i64 0, .int .u8 0, .int .i64 0, .int .i64 0, .int .i64 0, .int .i64 0, .int .i64 0, .int .i64 0, .int .i64 0, .int .u8 0, .int .i64 0, .int .i64 0, .int .i64 0, .int .i64 0, .int .i64 0, .int .i64 0, .int .i64 0, .int .u8 0, .int .i64 0, .int .i64 0, .int .i64 0, .int .i64 0, .int .i64 0, .int .i64 0, .int .i64 0, .int .u8 0, .int .i64 0, .int .i64 0, .int .i64 0, .int .i64 0, .int .i64 0, .int .i64 0, .int .i64 0, .int .u8 0, .int .i64 0, .int .i64 0, .int .i64 0, .int .i64 0, .int .i64 0, .int .i64 0, .int .i64 0]⟩,
    ⟨none, none, .st (.t 3) (.t 20) 48⟩])
 (.seq (.region [⟨none, some 21, .idxA (.t 3) (.c (.int .i64 0)) 8 6⟩,
    ⟨none, some 22, .fld (.t 21) 1⟩,
    ⟨none, some 23, .ld (.t 22) none⟩,
    ⟨none, some 24, .bin .add (.t 23) (.c (.int .i64 1))⟩,
    ⟨none, some 25, .idxA (.t 3) (.c (.int .i64 0)) 8 6⟩,
    ⟨none, some 26, .fld (.t 25) 1⟩,
    ⟨none, none, .st (.t 26) (.t 24) 1⟩])
 (.seq (.region [⟨none, some 27, .idxA (.t 3) (.c (.int .i64 1)) 8 6⟩,
    ⟨none, some 28, .fld (.t 27) 2⟩,
    ⟨none, some 29, .ld (.t 28) none⟩,
    ⟨none, some 30, .bin .sub (.t 29) (.c (.int .i64 1))⟩,
    ⟨none, some 31, .idxA (.t 3) (.c (.int .i64 1)) 8 6⟩,
    ⟨none, some 32, .fld (.t 31) 2⟩,
    ⟨none, none, .st (.t 32) (.t 30) 1⟩])
 (.seq (.region [⟨none, some 33, .idxA (.t 3) (.c (.int .i64 2)) 8 6⟩,
    ⟨none, some 34, .fld (.t 33) 3⟩,
    ⟨none, some 35, .ld (.t 34) none⟩,
    ⟨none, some 36, .bin .sub (.t 35) (.c (.int .i64 1))⟩,
    ⟨none, some 37, .idxA (.t 3) (.c (.int .i64 2)) 8 6⟩,
    ⟨none, some 38, .fld (.t 37) 3⟩,
    ⟨none, none, .st (.t 38) (.t 36) 1⟩])
 (.seq (.region [⟨none, some 39, .idxA (.t 3) (.c (.int .i64 3)) 8 6⟩,
    ⟨none, some 40, .fld (.t 39) 4⟩,
    ⟨none, some 41, .ld (.t 40) none⟩,
    ⟨none, some 42, .bin .sub (.t 41) (.c (.int .i64 1))⟩,
    ⟨none, some 43, .idxA (.t 3) (.c (.int .i64 3)) 8 6⟩,
    ⟨none, some 44, .fld (.t 43) 4⟩,
    ⟨none, none, .st (.t 44) (.t 42) 1⟩])
 (.seq (.region [⟨none, some 45, .idxA (.t 3) (.c (.int .i64 4)) 8 6⟩,
    ⟨none, some 46, .fld (.t 45) 5⟩,
    ⟨none, some 47, .ld (.t 46) none⟩,
    ⟨none, some 48, .bin .sub (.t 47) (.c (.int .i64 1))⟩,
    ⟨none, some 49, .idxA (.t 3) (.c (.int .i64 4)) 8 6⟩,
    ⟨none, some 50, .fld (.t 49) 5⟩,
    ⟨none, none, .st (.t 50) (.t 48) 1⟩])
 (.seq (.region [⟨none, some 51, .idxA (.t 3) (.c (.int .i64 5)) 8 6⟩,
    ⟨none, some 52, .fld (.t 51) 6⟩,
    ⟨none, some 53, .ld (.t 52) none⟩,
    ⟨none, some 54, .bin .sub (.t 53) (.c (.int .i64 1))⟩,
    ⟨none, some 55, .idxA (.t 3) (.c (.int .i64 5)) 8 6⟩,
    ⟨none, some 56, .fld (.t 55) 6⟩,
    ⟨none, none, .st (.t 56) (.t 54) 1⟩])
 (.seq (.seq (.region [⟨none, some 4, .mov (.c (.int .i64 0))⟩])
  (.block 0 (.loop (.seq (.seq (.region [⟨none, some 57, .mov (.t 4)⟩,
        ⟨none, some 58, .bin .lss (.t 57) (.c (.int .i64 6))⟩])
     (.cond (.t 58) (.skip)
      (.exit 0)))
    (.seq (.block 1 (.seq (.region [⟨none, some 61, .mov (.t 4)⟩,
         ⟨none, some 62, .idxA (.t 3) (.t 61) 8 6⟩,
         ⟨none, some 63, .ld (.t 62) (some 8)⟩,
         ⟨none, some 64, .call 8 [(.t 63)]⟩,
         ⟨none, some 5, .mov (.t 64)⟩])
      (.seq (.region [⟨none, some 65, .mov (.t 4)⟩,
         ⟨none, some 66, .idxA (.t 3) (.t 65) 8 6⟩,
         ⟨none, some 67, .ld (.t 66) (some 8)⟩,
         ⟨none, some 68, .call 10 [(.t 67)]⟩,
         ⟨none, some 69, .mov (.t 68)⟩,
         ⟨some (69, true), some 70, .mov (.t 5)⟩,
         ⟨some (69, true), some 71, .bin .neq (.t 70) (.c (.int .i64 0))⟩,
         ⟨none, some 72, .pick (.t 69) (.t 71) (.c (.bool false))⟩,
         ⟨none, some 73, .mov (.t 72)⟩,
         ⟨some (73, false), some 74, .mov (.t 4)⟩,
         ⟨some (73, false), some 75, .idxA (.t 3) (.t 74) 8 6⟩,
         ⟨some (73, false), some 76, .ld (.t 75) (some 8)⟩,
         ⟨some (73, false), some 77, .call 10 [(.t 76)]⟩,
         ⟨some (73, false), some 78, .not (.t 77)⟩,
         ⟨some (73, false), some 79, .mov (.t 78)⟩,
         ⟨some (79, true), some 80, .mov (.t 5)⟩,
         ⟨some (79, true), some 81, .bin .neq (.t 80) (.c (.int .i64 2))⟩,
         ⟨some (73, false), some 82, .pick (.t 79) (.t 81) (.c (.bool false))⟩,
         ⟨none, some 83, .pick (.t 73) (.c (.bool true)) (.t 82)⟩])
      (.cond (.t 83) (.seq (.region [⟨none, some 2, .mov (.c (.bool false))⟩])
       (.ret))
       (.skip)))))
    (.region [⟨none, some 59, .mov (.t 4)⟩,
      ⟨none, some 60, .bin .add (.t 59) (.c (.int .i64 1))⟩,
      ⟨none, some 4, .mov (.t 60)⟩]))))))
 (.seq (.region [⟨none, some 85, .ld (.t 1) (some 8)⟩,
    ⟨none, some 86, .call 11 [(.t 85)]⟩,
    ⟨none, some 84, .mov (.t 86)⟩,
    ⟨none, some 87, .ext (.t 84) 0⟩,
    ⟨none, some 88, .ext (.t 84) 1⟩,
    ⟨none, some 6, .mov (.t 87)⟩,
    ⟨none, some 7, .mov (.t 88)⟩])
 (.seq (.region [⟨none, some 90, .ld (.t 1) (some 8)⟩,
    ⟨none, some 91, .call 12 [(.t 90)]⟩,
    ⟨none, some 89, .mov (.t 91)⟩,
    ⟨none, some 92, .ext (.t 89) 0⟩,
    ⟨none, some 93, .ext (.t 89) 1⟩,
    ⟨none, some 8, .mov (.t 92)⟩,
    ⟨none, some 9, .mov (.t 93)⟩])
 (.seq (.region [⟨none, some 94, .call 9 []⟩,
    ⟨none, some 95, .mov (.t 94)⟩,
    ⟨some (95, true), some 96, .mov (.t 7)⟩,
    ⟨some (95, true), some 97, .bin .eql (.t 96) (.c (.int .i64 0))⟩,
    ⟨none, some 98, .pick (.t 95) (.t 97) (.c (.bool false))⟩,
    ⟨none, some 99, .mov (.t 98)⟩,
    ⟨some (99, true), some 100, .mov (.t 9)⟩,
    ⟨some (99, true), some 101, .bin .eql (.t 100) (.c (.int .i64 0))⟩,
    ⟨none, some 102, .pick (.t 99) (.t 101) (.c (.bool false))⟩,
    ⟨none, some 103, .mov (.t 102)⟩,
    ⟨some (103, true), some 104, .mov (.t 6)⟩,
    ⟨some (103, true), some 105, .fld (.t 1) 4⟩,
    ⟨some (103, true), some 106, .ld (.t 105) none⟩,
    ⟨some (103, true), some 107, .bin .add (.t 104) (.t 106)⟩,
    ⟨some (103, true), some 108, .mov (.t 8)⟩,
    ⟨some (103, true), some 109, .bin .add (.t 107) (.t 108)⟩,
    ⟨some (103, true), some 110, .fld (.t 1) 1⟩,
    ⟨some (103, true), some 111, .ld (.t 110) none⟩,
    ⟨some (103, true), some 112, .bin .eql (.t 109) (.t 111)⟩,
    ⟨none, some 113, .pick (.t 103) (.t 112) (.c (.bool false))⟩,
    ⟨none, some 114, .mov (.t 113)⟩,
    ⟨some (114, true), some 115, .mov (.t 8)⟩,
    ⟨some (114, true), some 116, .bin .geq (.t 115) (.c (.int .i64 0))⟩,
    ⟨none, some 117, .pick (.t 114) (.t 116) (.c (.bool false))⟩,
    ⟨none, some 118, .mov (.t 117)⟩,
    ⟨some (118, true), some 119, .mov (.t 6)⟩,
    ⟨some (118, true), some 120, .bin .geq (.t 119) (.c (.int .i64 1))⟩,
    ⟨none, some 121, .pick (.t 118) (.t 120) (.c (.bool false))⟩,
    ⟨none, some 2, .mov (.t 121)⟩])
 (.ret)))))))))))))
abbrev law12_PlanEasier.D0 : List Nat := [2, 4, 5, 57, 58, 59, 60, 61, 62, 63, 64, 65, 66, 67, 68, 69, 70, 71, 72, 73, 74, 75, 76, 77, 78, 79, 80, 81, 82, 83]
theorem law12_PlanEasier.k : chkFn Go.Proofs.Try.prog 3 122 [.tmp 2] law12_PlanEasier.c = true := by kernel_rfl

/-- conclave/conclavelaw12.PlanWide: function 5; parameters: api.Plan; results: bool -/
def law12_PlanWide.c : ACode :=
 .seq (.region [⟨none, some 1, .box (.t 0)⟩,
    ⟨none, some 2, .mov (.c (.bool false))⟩])
 (.seq (.region [⟨none, some 7, .ld (.t 1) (some 8)⟩,
    ⟨none, some 8, .call 14 [(.t 7)]⟩,
    ⟨none, some 6, .mov (.t 8)⟩,
    ⟨none, some 9, .ext (.t 6) 0⟩,
    ⟨none, some 10, .ext (.t 6) 1⟩,
    ⟨none, some 3, .alloc [.int .u8 0, .int .i64 0, .int .i64 0, .int .i64 0, .int .i64 0, .int .i64 0, .int .i64 0, .int .i64 0]⟩,
    ⟨none, none, .st (.t 3) (.t 9) 8⟩,
    ⟨none, some 4, .mov (.t 10)⟩])
 (.seq (.seq (.region [⟨none, some 11, .ld (.t 1) (some 8)⟩,
     ⟨none, some 12, .call 10 [(.t 11)]⟩,
     ⟨none, some 13, .not (.t 12)⟩])
  (.cond (.t 13) (.seq (.region [⟨none, some 14, .call 9 []⟩,
      ⟨none, some 15, .mov (.t 14)⟩,
      ⟨some (15, true), some 16, .mov (.t 4)⟩,
      ⟨some (15, true), some 17, .bin .eql (.t 16) (.c (.int .i64 2))⟩,
      ⟨none, some 18, .pick (.t 15) (.t 17) (.c (.bool false))⟩,
      ⟨none, some 19, .mov (.t 18)⟩,
      ⟨some (19, true), some 20, .ld (.t 3) (some 8)⟩,
      ⟨some (19, true), some 21, .build [.int .u8 0, .int .i64 0, .int .i64 0, .int .i64 0, .int .i64 0, .int .i64 0, .int .i64 0, .int .i64 0] []⟩,
      ⟨some (19, true), some 22, .eq (.flat [1, 1, 1, 1, 1, 1, 1, 1]) false (.t 20) (.t 21)⟩,
      ⟨none, some 23, .pick (.t 19) (.t 22) (.c (.bool false))⟩,
      ⟨none, some 2, .mov (.t 23)⟩])
   (.ret))
   (.skip)))
 (.seq (.seq (.region [⟨none, some 24, .mov (.t 4)⟩,
     ⟨none, some 25, .bin .neq (.t 24) (.c (.int .i64 0))⟩])
  (.cond (.t 25) (.seq (.region [⟨none, some 26, .fld (.t 1) 2⟩,
      ⟨none, none, .st (.t 26) (.c (.int .i64 1)) 1⟩])
   (.seq (.region [⟨none, some 27, .call 9 []⟩,
      ⟨none, some 28, .mov (.t 27)⟩,
      ⟨some (28, true), some 29, .mov (.t 4)⟩,
      ⟨some (28, true), some 30, .bin .eql (.t 29) (.c (.int .i64 120))⟩,
      ⟨none, some 31, .pick (.t 28) (.t 30) (.c (.bool false))⟩,
      ⟨none, some 32, .mov (.t 31)⟩,
      ⟨some (32, true), some 33, .ld (.t 3) (some 8)⟩,
      ⟨some (32, true), some 34, .build [.int .u8 0, .int .i64 0, .int .i64 0, .int .i64 0, .int .i64 0, .int .i64 0, .int .i64 0, .int .i64 0] []⟩,
      ⟨some (32, true), some 35, .eq (.flat [1, 1, 1, 1, 1, 1, 1, 1]) false (.t 33) (.t 34)⟩,
      ⟨none, some 36, .pick (.t 32) (.t 35) (.c (.bool false))⟩,
      ⟨none, some 37, .mov (.t 36)⟩,
      ⟨some (37, true), some 38, .ld (.t 1) (some 8)⟩,
      ⟨some (37, true), some 39, .call 8 [(.t 38)]⟩,
      ⟨some (37, true), some 40, .bin .neq (.t 39) (.c (.int .i64 0))⟩,
      ⟨none, some 41, .pick (.t 37) (.t 40) (.c (.bool false))⟩,
      ⟨none, some 2, .mov (.t 41)⟩])
   (.ret)))
   (.skip)))
 (.seq (.seq (.region [⟨none, some 42, .ld (.t 3) (some 8)⟩,
     ⟨none, some 43, .call 8 [(.t 42)]⟩,
     ⟨none, some 44, .bin .neq (.t 43) (.c (.int .i64 0))⟩])
  (.cond (.t 44) (.seq (.region [⟨none, some 2, .mov (.c (.bool false))⟩])
   (.ret))
   (.skip)))
 (.seq (.region [⟨none, some 45, .ld (.t 3) (some 8)⟩,
    ⟨none, some 5, .alloc [.int .u8 0, .int .i64 0, .int .i64 0, .int .i64 0, .int .i64 0, .int .i64 0, .int .i64 0, .int .i64 0]⟩,
    ⟨none, none, .st (.t 5) (.t 45) 8⟩])
 (.seq (.region [⟨none, some 46, .fld (.t 5) 2⟩,
    ⟨none, some 47, .ld (.t 46) none⟩,
    ⟨none, some 48, .bin .add (.t 47) (.c (.int .i64 1))⟩,
    ⟨none, some 49, .fld (.t 5) 2⟩,
    ⟨none, none, .st (.t 49) (.t 48) 1⟩])
 (.seq (.block 0 (.loop (.seq (.seq (.region [⟨none, some 50, .fld (.t 5) 2⟩,
        ⟨none, some 51, .ld (.t 50) none⟩,
        ⟨none, some 52, .bin .leq (.t 51) (.c (.int .i64 64))⟩])
     (.cond (.t 52) (.skip)
      (.exit 0)))
    (.block 1 (.seq (.seq (.region [⟨none, some 53, .ld (.t 5) (some 8)⟩,
         ⟨none, some 54, .call 8 [(.t 53)]⟩,
         ⟨none, some 55, .bin .eql (.t 54) (.c (.int .i64 0))⟩])
      (.cond (.t 55) (.seq (.region [⟨none, some 2, .mov (.c (.bool false))⟩])
       (.ret))
       (.skip)))
     (.region [⟨none, some 56, .fld (.t 5) 2⟩,
       ⟨none, some 57, .ld (.t 56) none⟩,
       ⟨none, some 58, .bin .add (.t 57) (.c (.int .i64 1))⟩,
       ⟨none, some 59, .fld (.t 5) 2⟩,
       ⟨none, none, .st (.t 59) (.t 58) 1⟩]))))))
 (.seq (.region [⟨none, some 60, .fld (.t 1) 2⟩,
    ⟨none, some 61, .ld (.t 60) none⟩,
    ⟨none, some 62, .fld (.t 5) 2⟩,
    ⟨none, none, .st (.t 62) (.t 61) 1⟩])
 (.seq (.region [⟨none, some 63, .call 9 []⟩,
    ⟨none, some 64, .mov (.t 63)⟩,
    ⟨some (64, true), some 65, .ld (.t 5) (some 8)⟩,
    ⟨some (64, true), some 66, .ld (.t 1) (some 8)⟩,
    ⟨some (64, true), some 67, .eq (.flat [1, 1, 1, 1, 1, 1, 1, 1]) false (.t 65) (.t 66)⟩,
    ⟨none, some 68, .pick (.t 64) (.t 67) (.c (.bool false))⟩,
    ⟨none, some 2, .mov (.t 68)⟩])
 (.ret))))))))))
abbrev law12_PlanWide.D0 : List Nat := [2, 50, 51, 52, 53, 54, 55, 56, 57, 58, 59]
theorem law12_PlanWide.k : chkFn Go.Proofs.Try.prog 5 69 [.tmp 2] law12_PlanWide.c = true := by kernel_rfl

/-- conclave/conclavelaw12.PlanLeft: function 4; parameters: api.Plan, uint8; results: bool -/
def law12_PlanLeft.c : ACode :=
 .seq (.region [⟨none, some 2, .box (.t 0)⟩,
    ⟨none, some 4, .mov (.c (.bool false))⟩])
 (.seq (.seq (.region [⟨none, some 7, .ld (.t 2) (some 8)⟩,
     ⟨none, some 8, .call 8 [(.t 7)]⟩,
     ⟨none, some 9, .bin .neq (.t 8) (.c (.int .i64 0))⟩,
     ⟨none, some 10, .mov (.t 9)⟩,
     ⟨some (10, false), some 11, .mov (.t 1)⟩,
     ⟨some (10, false), some 12, .conv .i64 (.t 11)⟩,
     ⟨some (10, false), some 13, .fld (.t 2) 5⟩,
     ⟨some (10, false), some 14, .ld (.t 13) none⟩,
     ⟨some (10, false), some 15, .bin .gtr (.t 12) (.t 14)⟩,
     ⟨none, some 16, .pick (.t 10) (.c (.bool true)) (.t 15)⟩,
     ⟨none, some 17, .mov (.t 16)⟩,
     ⟨some (17, false), some 18, .mov (.t 1)⟩,
     ⟨some (17, false), some 19, .conv .i64 (.t 18)⟩,
     ⟨some (17, false), some 20, .fld (.t 2) 1⟩,
     ⟨some (17, false), some 21, .ld (.t 20) none⟩,
     ⟨some (17, false), some 22, .bin .geq (.t 19) (.t 21)⟩,
     ⟨none, some 23, .pick (.t 17) (.c (.bool true)) (.t 22)⟩])
  (.cond (.t 23) (.seq (.region [⟨none, some 24, .call 9 []⟩,
      ⟨none, some 4, .mov (.t 24)⟩])
   (.ret))
   (.skip)))
 (.seq (.region [⟨none, some 26, .ld (.t 2) (some 8)⟩,
    ⟨none, some 27, .mov (.t 1)⟩,
    ⟨none, some 28, .conv .i64 (.t 27)⟩,
    ⟨none, some 29, .call 13 [(.t 26), (.t 28)]⟩,
    ⟨none, some 25, .mov (.t 29)⟩,
    ⟨none, some 30, .ext (.t 25) 0⟩,
    ⟨none, some 31, .ext (.t 25) 1⟩,
    ⟨none, some 5, .alloc [.int .u8 0, .int .i64 0, .int .i64 0, .int .i64 0, .int .i64 0, .int .i64 0, .int .i64 0, .int .i64 0]⟩,
    ⟨none, none, .st (.t 5) (.t 30) 8⟩,
    ⟨none, some 6, .mov (.t 31)⟩])
 (.seq (.region [⟨none, some 32, .call 9 []⟩,
    ⟨none, some 33, .mov (.t 32)⟩,
    ⟨some (33, true), some 34, .mov (.t 6)⟩,
    ⟨some (33, true), some 35, .bin .eql (.t 34) (.c (.int .i64 0))⟩,
    ⟨none, some 36, .pick (.t 33) (.t 35) (.c (.bool false))⟩,
    ⟨none, some 37, .mov (.t 36)⟩,
    ⟨some (37, true), some 38, .ld (.t 5) (some 8)⟩,
    ⟨some (37, true), some 39, .call 8 [(.t 38)]⟩,
    ⟨some (37, true), some 40, .bin .eql (.t 39) (.c (.int .i64 0))⟩,
    ⟨none, some 41, .pick (.t 37) (.t 40) (.c (.bool false))⟩,
    ⟨none, some 42, .mov (.t 41)⟩,
    ⟨some (42, true), some 43, .fld (.t 5) 1⟩,
    ⟨some (42, true), some 44, .ld (.t 43) none⟩,
    ⟨some (42, true), some 45, .fld (.t 2) 1⟩,
    ⟨some (42, true), some 46, .ld (.t 45) none⟩,
    ⟨some (42, true), some 47, .mov (.t 1)⟩,
    ⟨some (42, true), some 48, .conv .i64 (.t 47)⟩,
    ⟨some (42, true), some 49, .bin .sub (.t 46) (.t 48)⟩,
    ⟨some (42, true), some 50, .bin .eql (.t 44) (.t 49)⟩,
    ⟨none, some 51, .pick (.t 42) (.t 50) (.c (.bool false))⟩,
    ⟨none, some 52, .mov (.t 51)⟩,
    ⟨some (52, true), some 53, .fld (.t 5) 5⟩,
    ⟨some (52, true), some 54, .ld (.t 53) none⟩,
    ⟨some (52, true), some 55, .fld (.t 2) 5⟩,
    ⟨some (52, true), some 56, .ld (.t 55) none⟩,
    ⟨some (52, true), some 57, .mov (.t 1)⟩,
    ⟨some (52, true), some 58, .conv .i64 (.t 57)⟩,
    ⟨some (52, true), some 59, .bin .sub (.t 56) (.t 58)⟩,
    ⟨some (52, true), some 60, .bin .eql (.t 54) (.t 59)⟩,
    ⟨none, some 61, .pick (.t 52) (.t 60) (.c (.bool false))⟩,
    ⟨none, some 4, .mov (.t 61)⟩])
 (.ret))))
theorem law12_PlanLeft.k : chkFn Go.Proofs.Try.prog 4 62 [.tmp 4] law12_PlanLeft.c = true := by kernel_rfl

/-- conclave/conclavelaw12.PlanAll: function 6; parameters: api.Plan; results: bool -/
def law12_PlanAll.c : ACode :=
 .seq (.region [⟨none, some 1, .box (.t 0)⟩,
    ⟨none, some 2, .mov (.c (.bool false))⟩])
 (.seq (.region [⟨none, some 16, .ld (.t 1) (some 8)⟩,
    ⟨none, some 17, .call 15 [(.t 16)]⟩,
    ⟨none, some 15, .mov (.t 17)⟩,
    ⟨none, some 18, .ext (.t 15) 0⟩,
    ⟨none, some 19, .ext (.t 15) 1⟩,
    ⟨none, some 3, .mov (.t 18)⟩,
    ⟨none, some 4, .mov (.t 19)⟩])
 (.seq (.region [⟨none, some 21, .ld (.t 1) (some 8)⟩,
    ⟨none, some 22, .call 16 [(.t 21)]⟩,
    ⟨none, some 20, .mov (.t 22)⟩,
    ⟨none, some 23, .ext (.t 20) 0⟩,
    ⟨none, some 24, .ext (.t 20) 1⟩,
    ⟨none, some 5, .mov (.t 23)⟩,
    ⟨none, some 6, .mov (.t 24)⟩])
 (.seq (.region [⟨none, some 26, .ld (.t 1) (some 8)⟩,
    ⟨none, some 27, .call 11 [(.t 26)]⟩,
    ⟨none, some 25, .mov (.t 27)⟩,
    ⟨none, some 28, .ext (.t 25) 0⟩,
    ⟨none, some 29, .ext (.t 25) 1⟩,
    ⟨none, some 7, .mov (.t 28)⟩,
    ⟨none, some 8, .mov (.t 29)⟩])
 (.seq (.region [⟨none, some 31, .ld (.t 1) (some 8)⟩,
    ⟨none, some 32, .call 17 [(.t 31)]⟩,
    ⟨none, some 30, .mov (.t 32)⟩,
    ⟨none, some 33, .ext (.t 30) 0⟩,
    ⟨none, some 34, .ext (.t 30) 1⟩,
    ⟨none, some 9, .mov (.t 33)⟩,
    ⟨none, some 10, .mov (.t 34)⟩])
 (.seq (.region [⟨none, some 36, .ld (.t 1) (some 8)⟩,
    ⟨none, some 37, .call 12 [(.t 36)]⟩,
    ⟨none, some 35, .mov (.t 37)⟩,
    ⟨none, some 38, .ext (.t 35) 0⟩,
    ⟨none, some 39, .ext (.t 35) 1⟩,
    ⟨none, some 11, .mov (.t 38)⟩,
    ⟨none, some 12, .mov (.t 39)⟩])
 (.seq (.region [⟨none, some 41, .ld (.t 1) (some 8)⟩,
    ⟨none, some 42, .call 18 [(.t 41)]⟩,
    ⟨none, some 40, .mov (.t 42)⟩,
    ⟨none, some 43, .ext (.t 40) 0⟩,
    ⟨none, some 44, .ext (.t 40) 1⟩,
    ⟨none, some 13, .mov (.t 43)⟩,
    ⟨none, some 14, .mov (.t 44)⟩])
 (.seq (.draw [0, 2, 1, 3, 4, 5, 6, 7, 8, 9, 10, 11, 12, 13, 14, 15, 16, 17, 18, 19, 20, 21, 22, 23, 24, 25, 26, 27, 28, 29, 30, 31, 32, 33, 34, 35, 36, 38, 37, 39, 40, 41, 42, 43, 44, 45] [(1, 0), (3, 2), (37, 36), (39, 38), (45, 0), (45, 2), (45, 36), (45, 38)] [⟨none, some 45, .ld (.t 1) (some 8)⟩,
    ⟨none, some 46, .call 19 [(.t 45)]⟩,
    ⟨none, some 47, .ld (.t 1) (some 8)⟩,
    ⟨none, some 48, .call 10 [(.t 47)]⟩,
    ⟨none, some 49, .eq .bool false (.t 46) (.t 48)⟩,
    ⟨none, some 50, .mov (.t 49)⟩,
    ⟨some (50, true), some 51, .mov (.t 3)⟩,
    ⟨some (50, true), some 52, .mov (.t 5)⟩,
    ⟨some (50, true), some 53, .bin .eql (.t 51) (.t 52)⟩,
    ⟨none, some 54, .pick (.t 50) (.t 53) (.c (.bool false))⟩,
    ⟨none, some 55, .mov (.t 54)⟩,
    ⟨some (55, true), some 56, .mov (.t 4)⟩,
    ⟨some (55, true), some 57, .mov (.t 6)⟩,
    ⟨some (55, true), some 58, .bin .eql (.t 56) (.t 57)⟩,
    ⟨none, some 59, .pick (.t 55) (.t 58) (.c (.bool false))⟩,
    ⟨none, some 60, .mov (.t 59)⟩,
    ⟨some (60, true), some 61, .mov (.t 7)⟩,
    ⟨some (60, true), some 62, .mov (.t 9)⟩,
    ⟨some (60, true), some 63, .bin .eql (.t 61) (.t 62)⟩,
    ⟨none, some 64, .pick (.t 60) (.t 63) (.c (.bool false))⟩,
    ⟨none, some 65, .mov (.t 64)⟩,
    ⟨some (65, true), some 66, .mov (.t 8)⟩,
    ⟨some (65, true), some 67, .mov (.t 10)⟩,
    ⟨some (65, true), some 68, .bin .eql (.t 66) (.t 67)⟩,
    ⟨none, some 69, .pick (.t 65) (.t 68) (.c (.bool false))⟩,
    ⟨none, some 70, .mov (.t 69)⟩,
    ⟨some (70, true), some 71, .mov (.t 11)⟩,
    ⟨some (70, true), some 72, .mov (.t 13)⟩,
    ⟨some (70, true), some 73, .bin .eql (.t 71) (.t 72)⟩,
    ⟨none, some 74, .pick (.t 70) (.t 73) (.c (.bool false))⟩,
    ⟨none, some 75, .mov (.t 74)⟩,
    ⟨some (75, true), some 76, .mov (.t 12)⟩,
    ⟨some (75, true), some 77, .mov (.t 14)⟩,
    ⟨some (75, true), some 78, .bin .eql (.t 76) (.t 77)⟩,
    ⟨none, some 79, .pick (.t 75) (.t 78) (.c (.bool false))⟩,
    ⟨none, some 80, .mov (.t 79)⟩,
    ⟨some (80, true), some 81, .ld (.t 1) (some 8)⟩,
    ⟨some (80, true), some 82, .call 8 [(.t 81)]⟩,
    ⟨some (80, true), some 83, .ld (.t 1) (some 8)⟩,
    ⟨some (80, true), some 84, .call 20 [(.t 83)]⟩,
    ⟨some (80, true), some 85, .bin .eql (.t 82) (.t 84)⟩,
    ⟨none, some 86, .pick (.t 80) (.t 85) (.c (.bool false))⟩,
    ⟨none, some 87, .mov (.t 86)⟩,
    ⟨some (87, true), some 88, .call 9 []⟩,
    ⟨none, some 89, .pick (.t 87) (.t 88) (.c (.bool false))⟩,
    ⟨none, some 2, .mov (.t 89)⟩])
 (.ret))))))))
theorem law12_PlanAll.k : chkFn Go.Proofs.Try.prog 6 90 [.tmp 2] law12_PlanAll.c = true := by kernel_rfl

end Go.Proofs.Ytiionlbepecmjaa.C
