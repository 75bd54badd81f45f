import Derived.Test.YtiionlbepecmjaaAwalk
import Derived.Test.YtiionlbepecmjaaProg
import Derived.KernelRfl
namespace Go.Proofs.Ytiionlbepecmjaa.C
open Go Go.RowKit Go.Proofs.Ytiionlbepecmjaa.AL

/-- conclave/conclavelaw12.eleven: function 24; parameters: ; results: api.Plan -/
def law12_eleven.c : ACode :=
 .seq (.region [⟨none, some 0, .alloc [.int .u8 0, .int .i64 0, .int .i64 0, .int .i64 0, .int .i64 0, .int .i64 0, .int .i64 0, .int .i64 0]⟩])
 (.seq (.region [⟨none, some 1, .build [.int .u8 0, .int .i64 0, .int .i64 0, .int .i64 0, .int .i64 0, .int .i64 0, .int .i64 0, .int .i64 0] [(0, 1, (.c (.int .u8 1))), (1, 1, (.c (.int .i64 11))), (2, 1, (.c (.int .i64 3))), (3, 1, (.c (.int .i64 1))), (5, 1, (.c (.int .i64 2))), (6, 1, (.c (.int .i64 2))), (7, 1, (.c (.int .i64 1)))]⟩,
    ⟨none, none, .st (.t 0) (.t 1) 8⟩])
 (.ret))
theorem law12_eleven.k : chkFn Go.Proofs.Try.prog 24 2 [.cell 0 (some 8)] law12_eleven.c = true := by kernel_rfl

/-- conclave/conclavelaw12.anchored: function 9; parameters: ; results: bool -/
def law12_anchored.c : ACode :=
 .seq (.region [⟨none, some 0, .asg (.c (.bool false))⟩])
 (.seq (.region [⟨none, some 5, .call 24 []⟩,
    ⟨none, some 1, .alloc [.int .u8 0, .int .i64 0, .int .i64 0, .int .i64 0, .int .i64 0, .int .i64 0, .int .i64 0, .int .i64 0]⟩,
    ⟨none, none, .st (.t 1) (.t 5) 8⟩])
 (.seq (.region [⟨none, some 6, .ld (.t 1) (some 8)⟩,
    ⟨none, some 7, .call 8 [(.t 6)]⟩,
    ⟨none, some 2, .asg (.t 7)⟩])
 (.seq (.region [⟨none, some 8, .fld (.t 1) 4⟩,
    ⟨none, none, .st (.t 8) (.c (.int .i64 1)) 1⟩])
 (.seq (.region [⟨none, some 10, .ld (.t 1) (some 8)⟩,
    ⟨none, some 11, .call 11 [(.t 10)]⟩,
    ⟨none, some 9, .mov (.t 11)⟩,
    ⟨none, some 12, .ext (.t 9) 0⟩,
    ⟨none, some 13, .ext (.t 9) 1⟩,
    ⟨none, some 3, .asg (.t 12)⟩,
    ⟨none, some 4, .asg (.t 13)⟩])
 (.seq (.region [⟨none, some 14, .mov (.t 2)⟩,
    ⟨none, some 15, .bin .eql (.t 14) (.c (.int .i64 0))⟩,
    ⟨none, some 16, .mov (.t 15)⟩,
    ⟨some (16, true), some 17, .mov (.t 4)⟩,
    ⟨some (16, true), some 18, .bin .eql (.t 17) (.c (.int .i64 0))⟩,
    ⟨none, some 19, .pick (.t 16) (.t 18) (.c (.bool false))⟩,
    ⟨none, some 20, .mov (.t 19)⟩,
    ⟨some (20, true), some 21, .mov (.t 3)⟩,
    ⟨some (20, true), some 22, .bin .eql (.t 21) (.c (.int .i64 11))⟩,
    ⟨none, some 23, .pick (.t 20) (.t 22) (.c (.bool false))⟩,
    ⟨none, some 24, .mov (.t 23)⟩,
    ⟨some (24, true), some 25, .ld (.t 1) (some 8)⟩,
    ⟨some (24, true), some 26, .call 8 [(.t 25)]⟩,
    ⟨some (24, true), some 27, .bin .eql (.t 26) (.c (.int .i64 120))⟩,
    ⟨none, some 28, .pick (.t 24) (.t 27) (.c (.bool false))⟩,
    ⟨none, some 0, .asg (.t 28)⟩])
 (.ret))))))
theorem law12_anchored.k : chkFn Go.Proofs.Try.prog 9 29 [.tmp 0] law12_anchored.c = true := by kernel_rfl

/-- conclave/conclavelaw12.PlanTurns: function 7; parameters: api.Plan, int; results: bool -/
def law12_PlanTurns.c : ACode :=
 .seq (.region [⟨none, some 2, .box (.t 0)⟩,
    ⟨none, some 4, .asg (.c (.bool false))⟩])
 (.seq (.region [⟨none, some 14, .ld (.t 2) (some 8)⟩,
    ⟨none, some 15, .call 14 [(.t 14)]⟩,
    ⟨none, some 13, .mov (.t 15)⟩,
    ⟨none, some 16, .ext (.t 13) 0⟩,
    ⟨none, some 17, .ext (.t 13) 1⟩,
    ⟨none, some 5, .alloc [.int .u8 0, .int .i64 0, .int .i64 0, .int .i64 0, .int .i64 0, .int .i64 0, .int .i64 0, .int .i64 0]⟩,
    ⟨none, none, .st (.t 5) (.t 16) 8⟩,
    ⟨none, some 6, .asg (.t 17)⟩])
 (.seq (.region [⟨none, some 19, .ld (.t 2) (some 8)⟩,
    ⟨none, some 20, .call 21 [(.t 19)]⟩,
    ⟨none, some 18, .mov (.t 20)⟩,
    ⟨none, some 21, .ext (.t 18) 0⟩,
    ⟨none, some 22, .ext (.t 18) 1⟩,
    ⟨none, some 7, .alloc [.int .u8 0, .int .i64 0, .int .i64 0, .int .i64 0, .int .i64 0, .int .i64 0, .int .i64 0, .int .i64 0]⟩,
    ⟨none, none, .st (.t 7) (.t 21) 8⟩,
    ⟨none, some 8, .asg (.t 22)⟩])
 (.seq (.region [⟨none, some 24, .ld (.t 2) (some 8)⟩,
    ⟨none, some 25, .mov (.t 1)⟩,
    ⟨none, some 26, .call 13 [(.t 24), (.t 25)]⟩,
    ⟨none, some 23, .mov (.t 26)⟩,
    ⟨none, some 27, .ext (.t 23) 0⟩,
    ⟨none, some 28, .ext (.t 23) 1⟩,
    ⟨none, some 9, .alloc [.int .u8 0, .int .i64 0, .int .i64 0, .int .i64 0, .int .i64 0, .int .i64 0, .int .i64 0, .int .i64 0]⟩,
    ⟨none, none, .st (.t 9) (.t 27) 8⟩,
    ⟨none, some 10, .asg (.t 28)⟩])
 (.seq (.region [⟨none, some 30, .ld (.t 2) (some 8)⟩,
    ⟨none, some 31, .mov (.t 1)⟩,
    ⟨none, some 32, .call 22 [(.t 30), (.t 31)]⟩,
    ⟨none, some 29, .mov (.t 32)⟩,
    ⟨none, some 33, .ext (.t 29) 0⟩,
    ⟨none, some 34, .ext (.t 29) 1⟩,
    ⟨none, some 11, .alloc [.int .u8 0, .int .i64 0, .int .i64 0, .int .i64 0, .int .i64 0, .int .i64 0, .int .i64 0, .int .i64 0]⟩,
    ⟨none, none, .st (.t 11) (.t 33) 8⟩,
    ⟨none, some 12, .asg (.t 34)⟩])
 (.seq (.region [⟨none, some 35, .ld (.t 5) (some 8)⟩,
    ⟨none, some 36, .ld (.t 7) (some 8)⟩,
    ⟨none, some 37, .eq (.flat [1, 1, 1, 1, 1, 1, 1, 1]) false (.t 35) (.t 36)⟩,
    ⟨none, some 38, .mov (.t 37)⟩,
    ⟨some (38, true), some 39, .mov (.t 6)⟩,
    ⟨some (38, true), some 40, .mov (.t 8)⟩,
    ⟨some (38, true), some 41, .bin .eql (.t 39) (.t 40)⟩,
    ⟨none, some 42, .pick (.t 38) (.t 41) (.c (.bool false))⟩,
    ⟨none, some 43, .mov (.t 42)⟩,
    ⟨some (43, true), some 44, .ld (.t 9) (some 8)⟩,
    ⟨some (43, true), some 45, .ld (.t 11) (some 8)⟩,
    ⟨some (43, true), some 46, .eq (.flat [1, 1, 1, 1, 1, 1, 1, 1]) false (.t 44) (.t 45)⟩,
    ⟨none, some 47, .pick (.t 43) (.t 46) (.c (.bool false))⟩,
    ⟨none, some 48, .mov (.t 47)⟩,
    ⟨some (48, true), some 49, .mov (.t 10)⟩,
    ⟨some (48, true), some 50, .mov (.t 12)⟩,
    ⟨some (48, true), some 51, .bin .eql (.t 49) (.t 50)⟩,
    ⟨none, some 52, .pick (.t 48) (.t 51) (.c (.bool false))⟩,
    ⟨none, some 53, .mov (.t 52)⟩,
    ⟨some (53, true), some 54, .call 9 []⟩,
    ⟨none, some 55, .pick (.t 53) (.t 54) (.c (.bool false))⟩,
    ⟨none, some 4, .asg (.t 55)⟩])
 (.ret))))))
theorem law12_PlanTurns.k : chkFn Go.Proofs.Try.prog 7 56 [.tmp 4] law12_PlanTurns.c = true := by kernel_rfl

/-- conclave/conclavelaw12.PlanEasier: function 3; parameters: api.Plan; results: bool -/
def law12_PlanEasier.c : ACode :=
 .seq (.region [⟨none, some 1, .box (.t 0)⟩,
    ⟨none, some 2, .asg (.c (.bool false))⟩])
 (.seq (.seq (.region [⟨none, some 10, .ld (.t 1) (some 8)⟩,
     ⟨none, some 11, .call 8 [(.t 10)]⟩,
     ⟨none, some 12, .bin .neq (.t 11) (.c (.int .i64 0))⟩])
  (.cond (.t 12) (.seq (.region [⟨none, some 13, .call 9 []⟩,
      ⟨none, some 2, .asg (.t 13)⟩])
   (.ret))
   (.skip)))
 (.seq (.region [⟨none, some 14, .ld (.t 1) (some 8)⟩,
    ⟨none, some 15, .ld (.t 1) (some 8)⟩,
    ⟨none, some 16, .ld (.t 1) (some 8)⟩,
    ⟨none, some 17, .ld (.t 1) (some 8)⟩,
    ⟨none, some 18, .ld (.t 1) (some 8)⟩,
    ⟨none, some 19, .ld (.t 1) (some 8)⟩,
    ⟨none, some 20, .build [.int .u8 0, .int .i64 0, .int .i64 0, .int .i64 0, .int .i64 0, .int .i64 0, .int .i64 0, .int .i64 0, .int .u8 0, .int .i64 0, .int .i64 0, .int .i64 0, .int .i64 0, .int .i64 0, .int .i64 0, .int .i64 0, .int .u8 0, .int .i64 0, .int .i64 0, .int .i64 0, .int .i64 0, .int .i64 0, .int .i64 0, .int .i64 0, .int .u8 0, .int .i64 0, .int .i64 0, .int .i64 0, .int .i64 0, .int .i64 0, .int .i64 0, .int .i64 0, .int .u8 0, .int .i64 0, .int .i64 0, .int .i64 0, .int .i64 0, .int .i64 0, .int .i64 0, .int .i64 0, .int .u8 0, .int .i64 0, .int .i64 0, .int .i64 0, .int .i64 0, .int .i64 0, .int .i64 0, .int .i64 0] [(0, 8, (.t 14)), (8, 8, (.t 15)), (16, 8, (.t 16)), (24, 8, (.t 17)), (32, 8, (.t 18)), (40, 8, (.t 19))]⟩,
    ⟨none, some 3, .alloc [.int .u8 0, .int .i64 0, .int .i64 0, .int .i64 0, .int .i64 0, .int .i64 0, .int .i64 0, .int .i64 0, .int .u8 0, .int .i64 0, .int .i64 0, .int .i64 0, .int .i64 0, .int .i64 0, .int .i64 0, .int .i64 0, .int .u8 0, .int .i64 0, .int .i64 0, .int .i64 0, .int .i64 0, .int .i64 0, .int .i64 0, .int .i64 0, .int .u8 0, .int .i64 0, .int .i64 0, .int .i64 0, .int .i64 0, .int .i64 0, .int .i64 0, .int .i64 0, .int .u8 0, .int .i64 0, .int .i64 0, .int .i64 0, .int .i64 0, .int .i64 0, .int .i64 0, .int .i64 0, .int .u8 0, .int .i64 0, .int .i64 0, .int .i64 0, .int .i64 0, .int .i64 0, .int .i64 0, .int .i64 0]⟩,
    ⟨none, none, .st (.t 3) (.t 20) 48⟩])
 (.seq (.region [⟨none, some 21, .idxA (.t 3) (.c (.int .i64 0)) 8 6⟩,
    ⟨none, some 22, .fld (.t 21) 1⟩,
    ⟨none, some 23, .ld (.t 22) none⟩,
    ⟨none, some 24, .bin .add (.t 23) (.c (.int .i64 1))⟩,
    ⟨none, some 25, .idxA (.t 3) (.c (.int .i64 0)) 8 6⟩,
    ⟨none, some 26, .fld (.t 25) 1⟩,
    ⟨none, none, .st (.t 26) (.t 24) 1⟩])
 (.seq (.region [⟨none, some 27, .idxA (.t 3) (.c (.int .i64 1)) 8 6⟩,
    ⟨none, some 28, .fld (.t 27) 2⟩,
    ⟨none, some 29, .ld (.t 28) none⟩,
    ⟨none, some 30, .bin .sub (.t 29) (.c (.int .i64 1))⟩,
    ⟨none, some 31, .idxA (.t 3) (.c (.int .i64 1)) 8 6⟩,
    ⟨none, some 32, .fld (.t 31) 2⟩,
    ⟨none, none, .st (.t 32) (.t 30) 1⟩])
 (.seq (.region [⟨none, some 33, .idxA (.t 3) (.c (.int .i64 2)) 8 6⟩,
    ⟨none, some 34, .fld (.t 33) 3⟩,
    ⟨none, some 35, .ld (.t 34) none⟩,
    ⟨none, some 36, .bin .sub (.t 35) (.c (.int .i64 1))⟩,
    ⟨none, some 37, .idxA (.t 3) (.c (.int .i64 2)) 8 6⟩,
    ⟨none, some 38, .fld (.t 37) 3⟩,
    ⟨none, none, .st (.t 38) (.t 36) 1⟩])
 (.seq (.region [⟨none, some 39, .idxA (.t 3) (.c (.int .i64 3)) 8 6⟩,
    ⟨none, some 40, .fld (.t 39) 4⟩,
    ⟨none, some 41, .ld (.t 40) none⟩,
    ⟨none, some 42, .bin .sub (.t 41) (.c (.int .i64 1))⟩,
    ⟨none, some 43, .idxA (.t 3) (.c (.int .i64 3)) 8 6⟩,
    ⟨none, some 44, .fld (.t 43) 4⟩,
    ⟨none, none, .st (.t 44) (.t 42) 1⟩])
 (.seq (.region [⟨none, some 45, .idxA (.t 3) (.c (.int .i64 4)) 8 6⟩,
    ⟨none, some 46, .fld (.t 45) 5⟩,
    ⟨none, some 47, .ld (.t 46) none⟩,
    ⟨none, some 48, .bin .sub (.t 47) (.c (.int .i64 1))⟩,
    ⟨none, some 49, .idxA (.t 3) (.c (.int .i64 4)) 8 6⟩,
    ⟨none, some 50, .fld (.t 49) 5⟩,
    ⟨none, none, .st (.t 50) (.t 48) 1⟩])
 (.seq (.region [⟨none, some 51, .idxA (.t 3) (.c (.int .i64 5)) 8 6⟩,
    ⟨none, some 52, .fld (.t 51) 6⟩,
    ⟨none, some 53, .ld (.t 52) none⟩,
    ⟨none, some 54, .bin .sub (.t 53) (.c (.int .i64 1))⟩,
    ⟨none, some 55, .idxA (.t 3) (.c (.int .i64 5)) 8 6⟩,
    ⟨none, some 56, .fld (.t 55) 6⟩,
    ⟨none, none, .st (.t 56) (.t 54) 1⟩])
 (.seq (.seq (.region [⟨none, some 4, .asg (.c (.int .i64 0))⟩])
  (.block 0 (.loop (.seq (.seq (.region [⟨none, some 57, .mov (.t 4)⟩,
        ⟨none, some 58, .bin .lss (.t 57) (.c (.int .i64 6))⟩])
     (.cond (.t 58) (.skip)
      (.exit 0)))
    (.seq (.block 1 (.seq (.region [⟨none, some 61, .mov (.t 4)⟩,
         ⟨none, some 62, .idxA (.t 3) (.t 61) 8 6⟩,
         ⟨none, some 63, .ld (.t 62) (some 8)⟩,
         ⟨none, some 64, .call 8 [(.t 63)]⟩,
         ⟨none, some 5, .asg (.t 64)⟩])
      (.seq (.region [⟨none, some 65, .mov (.t 4)⟩,
         ⟨none, some 66, .idxA (.t 3) (.t 65) 8 6⟩,
         ⟨none, some 67, .ld (.t 66) (some 8)⟩,
         ⟨none, some 68, .call 10 [(.t 67)]⟩,
         ⟨none, some 69, .mov (.t 68)⟩,
         ⟨some (69, true), some 70, .mov (.t 5)⟩,
         ⟨some (69, true), some 71, .bin .neq (.t 70) (.c (.int .i64 0))⟩,
         ⟨none, some 72, .pick (.t 69) (.t 71) (.c (.bool false))⟩,
         ⟨none, some 73, .mov (.t 72)⟩,
         ⟨some (73, false), some 74, .mov (.t 4)⟩,
         ⟨some (73, false), some 75, .idxA (.t 3) (.t 74) 8 6⟩,
         ⟨some (73, false), some 76, .ld (.t 75) (some 8)⟩,
         ⟨some (73, false), some 77, .call 10 [(.t 76)]⟩,
         ⟨some (73, false), some 78, .not (.t 77)⟩,
         ⟨some (73, false), some 79, .mov (.t 78)⟩,
         ⟨some (79, true), some 80, .mov (.t 5)⟩,
         ⟨some (79, true), some 81, .bin .neq (.t 80) (.c (.int .i64 2))⟩,
         ⟨some (73, false), some 82, .pick (.t 79) (.t 81) (.c (.bool false))⟩,
         ⟨none, some 83, .pick (.t 73) (.c (.bool true)) (.t 82)⟩])
      (.cond (.t 83) (.seq (.region [⟨none, some 2, .asg (.c (.bool false))⟩])
       (.ret))
       (.skip)))))
    (.region [⟨none, some 59, .mov (.t 4)⟩,
      ⟨none, some 60, .bin .add (.t 59) (.c (.int .i64 1))⟩,
      ⟨none, some 4, .asg (.t 60)⟩]))))))
 (.seq (.region [⟨none, some 85, .ld (.t 1) (some 8)⟩,
    ⟨none, some 86, .call 11 [(.t 85)]⟩,
    ⟨none, some 84, .mov (.t 86)⟩,
    ⟨none, some 87, .ext (.t 84) 0⟩,
    ⟨none, some 88, .ext (.t 84) 1⟩,
    ⟨none, some 6, .asg (.t 87)⟩,
    ⟨none, some 7, .asg (.t 88)⟩])
 (.seq (.region [⟨none, some 90, .ld (.t 1) (some 8)⟩,
    ⟨none, some 91, .call 12 [(.t 90)]⟩,
    ⟨none, some 89, .mov (.t 91)⟩,
    ⟨none, some 92, .ext (.t 89) 0⟩,
    ⟨none, some 93, .ext (.t 89) 1⟩,
    ⟨none, some 8, .asg (.t 92)⟩,
    ⟨none, some 9, .asg (.t 93)⟩])
 (.seq (.region [⟨none, some 94, .call 9 []⟩,
    ⟨none, some 95, .mov (.t 94)⟩,
    ⟨some (95, true), some 96, .mov (.t 7)⟩,
    ⟨some (95, true), some 97, .bin .eql (.t 96) (.c (.int .i64 0))⟩,
    ⟨none, some 98, .pick (.t 95) (.t 97) (.c (.bool false))⟩,
    ⟨none, some 99, .mov (.t 98)⟩,
    ⟨some (99, true), some 100, .mov (.t 9)⟩,
    ⟨some (99, true), some 101, .bin .eql (.t 100) (.c (.int .i64 0))⟩,
    ⟨none, some 102, .pick (.t 99) (.t 101) (.c (.bool false))⟩,
    ⟨none, some 103, .mov (.t 102)⟩,
    ⟨some (103, true), some 104, .mov (.t 6)⟩,
    ⟨some (103, true), some 105, .fld (.t 1) 4⟩,
    ⟨some (103, true), some 106, .ld (.t 105) none⟩,
    ⟨some (103, true), some 107, .bin .add (.t 104) (.t 106)⟩,
    ⟨some (103, true), some 108, .mov (.t 8)⟩,
    ⟨some (103, true), some 109, .bin .add (.t 107) (.t 108)⟩,
    ⟨some (103, true), some 110, .fld (.t 1) 1⟩,
    ⟨some (103, true), some 111, .ld (.t 110) none⟩,
    ⟨some (103, true), some 112, .bin .eql (.t 109) (.t 111)⟩,
    ⟨none, some 113, .pick (.t 103) (.t 112) (.c (.bool false))⟩,
    ⟨none, some 114, .mov (.t 113)⟩,
    ⟨some (114, true), some 115, .mov (.t 8)⟩,
    ⟨some (114, true), some 116, .bin .geq (.t 115) (.c (.int .i64 0))⟩,
    ⟨none, some 117, .pick (.t 114) (.t 116) (.c (.bool false))⟩,
    ⟨none, some 118, .mov (.t 117)⟩,
    ⟨some (118, true), some 119, .mov (.t 6)⟩,
    ⟨some (118, true), some 120, .bin .geq (.t 119) (.c (.int .i64 1))⟩,
    ⟨none, some 121, .pick (.t 118) (.t 120) (.c (.bool false))⟩,
    ⟨none, some 2, .asg (.t 121)⟩])
 (.ret)))))))))))))
abbrev law12_PlanEasier.D0 : List Nat := [2, 4, 5, 57, 58, 59, 60, 61, 62, 63, 64, 65, 66, 67, 68, 69, 70, 71, 72, 73, 74, 75, 76, 77, 78, 79, 80, 81, 82, 83]
theorem law12_PlanEasier.k : chkFn Go.Proofs.Try.prog 3 122 [.tmp 2] law12_PlanEasier.c = true := by kernel_rfl

/-- conclave/conclavelaw12.PlanWide: function 5; parameters: api.Plan; results: bool -/
def law12_PlanWide.c : ACode :=
 .seq (.region [⟨none, some 1, .box (.t 0)⟩,
    ⟨none, some 2, .asg (.c (.bool false))⟩])
 (.seq (.region [⟨none, some 7, .ld (.t 1) (some 8)⟩,
    ⟨none, some 8, .call 14 [(.t 7)]⟩,
    ⟨none, some 6, .mov (.t 8)⟩,
    ⟨none, some 9, .ext (.t 6) 0⟩,
    ⟨none, some 10, .ext (.t 6) 1⟩,
    ⟨none, some 3, .alloc [.int .u8 0, .int .i64 0, .int .i64 0, .int .i64 0, .int .i64 0, .int .i64 0, .int .i64 0, .int .i64 0]⟩,
    ⟨none, none, .st (.t 3) (.t 9) 8⟩,
    ⟨none, some 4, .asg (.t 10)⟩])
 (.seq (.seq (.region [⟨none, some 11, .ld (.t 1) (some 8)⟩,
     ⟨none, some 12, .call 10 [(.t 11)]⟩,
     ⟨none, some 13, .not (.t 12)⟩])
  (.cond (.t 13) (.seq (.region [⟨none, some 14, .call 9 []⟩,
      ⟨none, some 15, .mov (.t 14)⟩,
      ⟨some (15, true), some 16, .mov (.t 4)⟩,
      ⟨some (15, true), some 17, .bin .eql (.t 16) (.c (.int .i64 2))⟩,
      ⟨none, some 18, .pick (.t 15) (.t 17) (.c (.bool false))⟩,
      ⟨none, some 19, .mov (.t 18)⟩,
      ⟨some (19, true), some 20, .ld (.t 3) (some 8)⟩,
      ⟨some (19, true), some 21, .build [.int .u8 0, .int .i64 0, .int .i64 0, .int .i64 0, .int .i64 0, .int .i64 0, .int .i64 0, .int .i64 0] []⟩,
      ⟨some (19, true), some 22, .eq (.flat [1, 1, 1, 1, 1, 1, 1, 1]) false (.t 20) (.t 21)⟩,
      ⟨none, some 23, .pick (.t 19) (.t 22) (.c (.bool false))⟩,
      ⟨none, some 2, .asg (.t 23)⟩])
   (.ret))
   (.skip)))
 (.seq (.seq (.region [⟨none, some 24, .mov (.t 4)⟩,
     ⟨none, some 25, .bin .neq (.t 24) (.c (.int .i64 0))⟩])
  (.cond (.t 25) (.seq (.region [⟨none, some 26, .fld (.t 1) 2⟩,
      ⟨none, none, .st (.t 26) (.c (.int .i64 1)) 1⟩])
   (.seq (.region [⟨none, some 27, .call 9 []⟩,
      ⟨none, some 28, .mov (.t 27)⟩,
      ⟨some (28, true), some 29, .mov (.t 4)⟩,
      ⟨some (28, true), some 30, .bin .eql (.t 29) (.c (.int .i64 120))⟩,
      ⟨none, some 31, .pick (.t 28) (.t 30) (.c (.bool false))⟩,
      ⟨none, some 32, .mov (.t 31)⟩,
      ⟨some (32, true), some 33, .ld (.t 3) (some 8)⟩,
      ⟨some (32, true), some 34, .build [.int .u8 0, .int .i64 0, .int .i64 0, .int .i64 0, .int .i64 0, .int .i64 0, .int .i64 0, .int .i64 0] []⟩,
      ⟨some (32, true), some 35, .eq (.flat [1, 1, 1, 1, 1, 1, 1, 1]) false (.t 33) (.t 34)⟩,
      ⟨none, some 36, .pick (.t 32) (.t 35) (.c (.bool false))⟩,
      ⟨none, some 37, .mov (.t 36)⟩,
      ⟨some (37, true), some 38, .ld (.t 1) (some 8)⟩,
      ⟨some (37, true), some 39, .call 8 [(.t 38)]⟩,
      ⟨some (37, true), some 40, .bin .neq (.t 39) (.c (.int .i64 0))⟩,
      ⟨none, some 41, .pick (.t 37) (.t 40) (.c (.bool false))⟩,
      ⟨none, some 2, .asg (.t 41)⟩])
   (.ret)))
   (.skip)))
 (.seq (.seq (.region [⟨none, some 42, .ld (.t 3) (some 8)⟩,
     ⟨none, some 43, .call 8 [(.t 42)]⟩,
     ⟨none, some 44, .bin .neq (.t 43) (.c (.int .i64 0))⟩])
  (.cond (.t 44) (.seq (.region [⟨none, some 2, .asg (.c (.bool false))⟩])
   (.ret))
   (.skip)))
 (.seq (.region [⟨none, some 45, .ld (.t 3) (some 8)⟩,
    ⟨none, some 5, .alloc [.int .u8 0, .int .i64 0, .int .i64 0, .int .i64 0, .int .i64 0, .int .i64 0, .int .i64 0, .int .i64 0]⟩,
    ⟨none, none, .st (.t 5) (.t 45) 8⟩])
 (.seq (.region [⟨none, some 46, .fld (.t 5) 2⟩,
    ⟨none, some 47, .ld (.t 46) none⟩,
    ⟨none, some 48, .bin .add (.t 47) (.c (.int .i64 1))⟩,
    ⟨none, some 49, .fld (.t 5) 2⟩,
    ⟨none, none, .st (.t 49) (.t 48) 1⟩])
 (.seq (.block 0 (.loop (.seq (.seq (.region [⟨none, some 50, .fld (.t 5) 2⟩,
        ⟨none, some 51, .ld (.t 50) none⟩,
        ⟨none, some 52, .bin .leq (.t 51) (.c (.int .i64 64))⟩])
     (.cond (.t 52) (.skip)
      (.exit 0)))
    (.block 1 (.seq (.seq (.region [⟨none, some 53, .ld (.t 5) (some 8)⟩,
         ⟨none, some 54, .call 8 [(.t 53)]⟩,
         ⟨none, some 55, .bin .eql (.t 54) (.c (.int .i64 0))⟩])
      (.cond (.t 55) (.seq (.region [⟨none, some 2, .asg (.c (.bool false))⟩])
       (.ret))
       (.skip)))
     (.region [⟨none, some 56, .fld (.t 5) 2⟩,
       ⟨none, some 57, .ld (.t 56) none⟩,
       ⟨none, some 58, .bin .add (.t 57) (.c (.int .i64 1))⟩,
       ⟨none, some 59, .fld (.t 5) 2⟩,
       ⟨none, none, .st (.t 59) (.t 58) 1⟩]))))))
 (.seq (.region [⟨none, some 60, .fld (.t 1) 2⟩,
    ⟨none, some 61, .ld (.t 60) none⟩,
    ⟨none, some 62, .fld (.t 5) 2⟩,
    ⟨none, none, .st (.t 62) (.t 61) 1⟩])
 (.seq (.region [⟨none, some 63, .call 9 []⟩,
    ⟨none, some 64, .mov (.t 63)⟩,
    ⟨some (64, true), some 65, .ld (.t 5) (some 8)⟩,
    ⟨some (64, true), some 66, .ld (.t 1) (some 8)⟩,
    ⟨some (64, true), some 67, .eq (.flat [1, 1, 1, 1, 1, 1, 1, 1]) false (.t 65) (.t 66)⟩,
    ⟨none, some 68, .pick (.t 64) (.t 67) (.c (.bool false))⟩,
    ⟨none, some 2, .asg (.t 68)⟩])
 (.ret))))))))))
abbrev law12_PlanWide.D0 : List Nat := [2, 50, 51, 52, 53, 54, 55, 56, 57, 58, 59]
theorem law12_PlanWide.k : chkFn Go.Proofs.Try.prog 5 69 [.tmp 2] law12_PlanWide.c = true := by kernel_rfl

/-- conclave/conclavelaw12.PlanLeft: function 4; parameters: api.Plan, uint8; results: bool -/
def law12_PlanLeft.c : ACode :=
 .seq (.region [⟨none, some 2, .box (.t 0)⟩,
    ⟨none, some 4, .asg (.c (.bool false))⟩])
 (.seq (.seq (.region [⟨none, some 7, .ld (.t 2) (some 8)⟩,
     ⟨none, some 8, .call 8 [(.t 7)]⟩,
     ⟨none, some 9, .bin .neq (.t 8) (.c (.int .i64 0))⟩,
     ⟨none, some 10, .mov (.t 9)⟩,
     ⟨some (10, false), some 11, .mov (.t 1)⟩,
     ⟨some (10, false), some 12, .conv .i64 (.t 11)⟩,
     ⟨some (10, false), some 13, .fld (.t 2) 5⟩,
     ⟨some (10, false), some 14, .ld (.t 13) none⟩,
     ⟨some (10, false), some 15, .bin .gtr (.t 12) (.t 14)⟩,
     ⟨none, some 16, .pick (.t 10) (.c (.bool true)) (.t 15)⟩,
     ⟨none, some 17, .mov (.t 16)⟩,
     ⟨some (17, false), some 18, .mov (.t 1)⟩,
     ⟨some (17, false), some 19, .conv .i64 (.t 18)⟩,
     ⟨some (17, false), some 20, .fld (.t 2) 1⟩,
     ⟨some (17, false), some 21, .ld (.t 20) none⟩,
     ⟨some (17, false), some 22, .bin .geq (.t 19) (.t 21)⟩,
     ⟨none, some 23, .pick (.t 17) (.c (.bool true)) (.t 22)⟩])
  (.cond (.t 23) (.seq (.region [⟨none, some 24, .call 9 []⟩,
      ⟨none, some 4, .asg (.t 24)⟩])
   (.ret))
   (.skip)))
 (.seq (.region [⟨none, some 26, .ld (.t 2) (some 8)⟩,
    ⟨none, some 27, .mov (.t 1)⟩,
    ⟨none, some 28, .conv .i64 (.t 27)⟩,
    ⟨none, some 29, .call 13 [(.t 26), (.t 28)]⟩,
    ⟨none, some 25, .mov (.t 29)⟩,
    ⟨none, some 30, .ext (.t 25) 0⟩,
    ⟨none, some 31, .ext (.t 25) 1⟩,
    ⟨none, some 5, .alloc [.int .u8 0, .int .i64 0, .int .i64 0, .int .i64 0, .int .i64 0, .int .i64 0, .int .i64 0, .int .i64 0]⟩,
    ⟨none, none, .st (.t 5) (.t 30) 8⟩,
    ⟨none, some 6, .asg (.t 31)⟩])
 (.seq (.region [⟨none, some 32, .call 9 []⟩,
    ⟨none, some 33, .mov (.t 32)⟩,
    ⟨some (33, true), some 34, .mov (.t 6)⟩,
    ⟨some (33, true), some 35, .bin .eql (.t 34) (.c (.int .i64 0))⟩,
    ⟨none, some 36, .pick (.t 33) (.t 35) (.c (.bool false))⟩,
    ⟨none, some 37, .mov (.t 36)⟩,
    ⟨some (37, true), some 38, .ld (.t 5) (some 8)⟩,
    ⟨some (37, true), some 39, .call 8 [(.t 38)]⟩,
    ⟨some (37, true), some 40, .bin .eql (.t 39) (.c (.int .i64 0))⟩,
    ⟨none, some 41, .pick (.t 37) (.t 40) (.c (.bool false))⟩,
    ⟨none, some 42, .mov (.t 41)⟩,
    ⟨some (42, true), some 43, .fld (.t 5) 1⟩,
    ⟨some (42, true), some 44, .ld (.t 43) none⟩,
    ⟨some (42, true), some 45, .fld (.t 2) 1⟩,
    ⟨some (42, true), some 46, .ld (.t 45) none⟩,
    ⟨some (42, true), some 47, .mov (.t 1)⟩,
    ⟨some (42, true), some 48, .conv .i64 (.t 47)⟩,
    ⟨some (42, true), some 49, .bin .sub (.t 46) (.t 48)⟩,
    ⟨some (42, true), some 50, .bin .eql (.t 44) (.t 49)⟩,
    ⟨none, some 51, .pick (.t 42) (.t 50) (.c (.bool false))⟩,
    ⟨none, some 52, .mov (.t 51)⟩,
    ⟨some (52, true), some 53, .fld (.t 5) 5⟩,
    ⟨some (52, true), some 54, .ld (.t 53) none⟩,
    ⟨some (52, true), some 55, .fld (.t 2) 5⟩,
    ⟨some (52, true), some 56, .ld (.t 55) none⟩,
    ⟨some (52, true), some 57, .mov (.t 1)⟩,
    ⟨some (52, true), some 58, .conv .i64 (.t 57)⟩,
    ⟨some (52, true), some 59, .bin .sub (.t 56) (.t 58)⟩,
    ⟨some (52, true), some 60, .bin .eql (.t 54) (.t 59)⟩,
    ⟨none, some 61, .pick (.t 52) (.t 60) (.c (.bool false))⟩,
    ⟨none, some 4, .asg (.t 61)⟩])
 (.ret))))
theorem law12_PlanLeft.k : chkFn Go.Proofs.Try.prog 4 62 [.tmp 4] law12_PlanLeft.c = true := by kernel_rfl

/-- conclave/conclavelaw12.PlanAll: function 6; parameters: api.Plan; results: bool -/
def law12_PlanAll.c : ACode :=
 .seq (.region [⟨none, some 1, .box (.t 0)⟩,
    ⟨none, some 2, .asg (.c (.bool false))⟩])
 (.seq (.region [⟨none, some 16, .ld (.t 1) (some 8)⟩,
    ⟨none, some 17, .call 15 [(.t 16)]⟩,
    ⟨none, some 15, .mov (.t 17)⟩,
    ⟨none, some 18, .ext (.t 15) 0⟩,
    ⟨none, some 19, .ext (.t 15) 1⟩,
    ⟨none, some 3, .asg (.t 18)⟩,
    ⟨none, some 4, .asg (.t 19)⟩])
 (.seq (.region [⟨none, some 21, .ld (.t 1) (some 8)⟩,
    ⟨none, some 22, .call 16 [(.t 21)]⟩,
    ⟨none, some 20, .mov (.t 22)⟩,
    ⟨none, some 23, .ext (.t 20) 0⟩,
    ⟨none, some 24, .ext (.t 20) 1⟩,
    ⟨none, some 5, .asg (.t 23)⟩,
    ⟨none, some 6, .asg (.t 24)⟩])
 (.seq (.region [⟨none, some 26, .ld (.t 1) (some 8)⟩,
    ⟨none, some 27, .call 11 [(.t 26)]⟩,
    ⟨none, some 25, .mov (.t 27)⟩,
    ⟨none, some 28, .ext (.t 25) 0⟩,
    ⟨none, some 29, .ext (.t 25) 1⟩,
    ⟨none, some 7, .asg (.t 28)⟩,
    ⟨none, some 8, .asg (.t 29)⟩])
 (.seq (.region [⟨none, some 31, .ld (.t 1) (some 8)⟩,
    ⟨none, some 32, .call 17 [(.t 31)]⟩,
    ⟨none, some 30, .mov (.t 32)⟩,
    ⟨none, some 33, .ext (.t 30) 0⟩,
    ⟨none, some 34, .ext (.t 30) 1⟩,
    ⟨none, some 9, .asg (.t 33)⟩,
    ⟨none, some 10, .asg (.t 34)⟩])
 (.seq (.region [⟨none, some 36, .ld (.t 1) (some 8)⟩,
    ⟨none, some 37, .call 12 [(.t 36)]⟩,
    ⟨none, some 35, .mov (.t 37)⟩,
    ⟨none, some 38, .ext (.t 35) 0⟩,
    ⟨none, some 39, .ext (.t 35) 1⟩,
    ⟨none, some 11, .asg (.t 38)⟩,
    ⟨none, some 12, .asg (.t 39)⟩])
 (.seq (.region [⟨none, some 41, .ld (.t 1) (some 8)⟩,
    ⟨none, some 42, .call 18 [(.t 41)]⟩,
    ⟨none, some 40, .mov (.t 42)⟩,
    ⟨none, some 43, .ext (.t 40) 0⟩,
    ⟨none, some 44, .ext (.t 40) 1⟩,
    ⟨none, some 13, .asg (.t 43)⟩,
    ⟨none, some 14, .asg (.t 44)⟩])
 (.seq (.draw [0, 2, 1, 3, 4, 5, 6, 7, 8, 9, 10, 11, 12, 13, 14, 15, 16, 17, 18, 19, 20, 21, 22, 23, 24, 25, 26, 27, 28, 29, 30, 31, 32, 33, 34, 35, 36, 38, 37, 39, 40, 41, 42, 43, 44, 45] [(1, 0), (3, 2), (37, 36), (39, 38), (45, 0), (45, 2), (45, 36), (45, 38)] [⟨none, some 45, .ld (.t 1) (some 8)⟩,
    ⟨none, some 46, .call 19 [(.t 45)]⟩,
    ⟨none, some 47, .ld (.t 1) (some 8)⟩,
    ⟨none, some 48, .call 10 [(.t 47)]⟩,
    ⟨none, some 49, .eq .bool false (.t 46) (.t 48)⟩,
    ⟨none, some 50, .mov (.t 49)⟩,
    ⟨some (50, true), some 51, .mov (.t 3)⟩,
    ⟨some (50, true), some 52, .mov (.t 5)⟩,
    ⟨some (50, true), some 53, .bin .eql (.t 51) (.t 52)⟩,
    ⟨none, some 54, .pick (.t 50) (.t 53) (.c (.bool false))⟩,
    ⟨none, some 55, .mov (.t 54)⟩,
    ⟨some (55, true), some 56, .mov (.t 4)⟩,
    ⟨some (55, true), some 57, .mov (.t 6)⟩,
    ⟨some (55, true), some 58, .bin .eql (.t 56) (.t 57)⟩,
    ⟨none, some 59, .pick (.t 55) (.t 58) (.c (.bool false))⟩,
    ⟨none, some 60, .mov (.t 59)⟩,
    ⟨some (60, true), some 61, .mov (.t 7)⟩,
    ⟨some (60, true), some 62, .mov (.t 9)⟩,
    ⟨some (60, true), some 63, .bin .eql (.t 61) (.t 62)⟩,
    ⟨none, some 64, .pick (.t 60) (.t 63) (.c (.bool false))⟩,
    ⟨none, some 65, .mov (.t 64)⟩,
    ⟨some (65, true), some 66, .mov (.t 8)⟩,
    ⟨some (65, true), some 67, .mov (.t 10)⟩,
    ⟨some (65, true), some 68, .bin .eql (.t 66) (.t 67)⟩,
    ⟨none, some 69, .pick (.t 65) (.t 68) (.c (.bool false))⟩,
    ⟨none, some 70, .mov (.t 69)⟩,
    ⟨some (70, true), some 71, .mov (.t 11)⟩,
    ⟨some (70, true), some 72, .mov (.t 13)⟩,
    ⟨some (70, true), some 73, .bin .eql (.t 71) (.t 72)⟩,
    ⟨none, some 74, .pick (.t 70) (.t 73) (.c (.bool false))⟩,
    ⟨none, some 75, .mov (.t 74)⟩,
    ⟨some (75, true), some 76, .mov (.t 12)⟩,
    ⟨some (75, true), some 77, .mov (.t 14)⟩,
    ⟨some (75, true), some 78, .bin .eql (.t 76) (.t 77)⟩,
    ⟨none, some 79, .pick (.t 75) (.t 78) (.c (.bool false))⟩,
    ⟨none, some 80, .mov (.t 79)⟩,
    ⟨some (80, true), some 81, .ld (.t 1) (some 8)⟩,
    ⟨some (80, true), some 82, .call 8 [(.t 81)]⟩,
    ⟨some (80, true), some 83, .ld (.t 1) (some 8)⟩,
    ⟨some (80, true), some 84, .call 20 [(.t 83)]⟩,
    ⟨some (80, true), some 85, .bin .eql (.t 82) (.t 84)⟩,
    ⟨none, some 86, .pick (.t 80) (.t 85) (.c (.bool false))⟩,
    ⟨none, some 87, .mov (.t 86)⟩,
    ⟨some (87, true), some 88, .call 9 []⟩,
    ⟨none, some 89, .pick (.t 87) (.t 88) (.c (.bool false))⟩,
    ⟨none, some 2, .asg (.t 89)⟩])
 (.ret))))))))
theorem law12_PlanAll.k : chkFn Go.Proofs.Try.prog 6 90 [.tmp 2] law12_PlanAll.c = true := by kernel_rfl

end Go.Proofs.Ytiionlbepecmjaa.C
