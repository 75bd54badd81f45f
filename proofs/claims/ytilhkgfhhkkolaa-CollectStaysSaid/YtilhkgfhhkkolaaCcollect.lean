import Derived.Test.YtilhkgfhhkkolaaAdef
import Derived.Test.YtilhkgfhhkkolaaProg
import Derived.KernelRfl
namespace Go.Proofs.Ytilhkgfhhkkolaa.C
open Go Go.RowKit Go.Proofs.Ytilhkgfhhkkolaa.AL

/-- conclave/collect.Well: function 5; parameters: api.Plan, int, int, int, []uint8; results: api.Reply, api.Errno -/
def collect_Well.c : ACode :=
 .seq (.region [⟨none, some 5, .box (.t 0)⟩,
    ⟨none, some 10, .alloc [.int .i64 0, .lit (.slice none 0 0)]⟩,
    ⟨none, some 11, .asg (.c (.int .i64 0))⟩])
 (.seq (.seq (.region [⟨none, some 14, .ld (.t 5) (some 8)⟩,
     ⟨none, some 15, .mov (.t 1)⟩,
     ⟨none, some 16, .mov (.t 2)⟩,
     ⟨none, some 17, .call 13 [(.t 14), (.t 15), (.t 16)]⟩,
     ⟨none, some 18, .not (.t 17)⟩])
  (.cond (.t 18) (.seq (.region [⟨none, some 19, .build [.int .i64 0, .lit (.slice none 0 0)] []⟩,
      ⟨none, none, .st (.t 10) (.t 19) 2⟩,
      ⟨none, some 11, .asg (.c (.int .i64 2))⟩])
   (.ret))
   (.skip)))
 (.seq (.region [⟨none, some 21, .mov (.t 4)⟩,
    ⟨none, some 22, .call 14 [(.t 21)]⟩,
    ⟨none, some 20, .mov (.t 22)⟩,
    ⟨none, some 23, .ext (.t 20) 0⟩,
    ⟨none, some 24, .ext (.t 20) 1⟩,
    ⟨none, some 12, .alloc [.int .u8 0, .int .i64 0, .int .i64 0, .int .u8 0, .lit (.slice none 0 0)]⟩,
    ⟨none, none, .st (.t 12) (.t 23) 5⟩,
    ⟨none, some 13, .asg (.t 24)⟩])
 (.seq (.seq (.region [⟨none, some 25, .mov (.t 13)⟩,
     ⟨none, some 26, .bin .neq (.t 25) (.c (.int .i64 0))⟩,
     ⟨none, some 27, .mov (.t 26)⟩,
     ⟨some (27, false), some 28, .mov (.t 3)⟩,
     ⟨some (27, false), some 29, .bin .lss (.t 28) (.c (.int .i64 1))⟩,
     ⟨none, some 30, .pick (.t 27) (.c (.bool true)) (.t 29)⟩,
     ⟨none, some 31, .mov (.t 30)⟩,
     ⟨some (31, false), some 32, .mov (.t 3)⟩,
     ⟨some (31, false), some 33, .fld (.t 5) 1⟩,
     ⟨some (31, false), some 34, .ld (.t 33) none⟩,
     ⟨some (31, false), some 35, .bin .gtr (.t 32) (.t 34)⟩,
     ⟨none, some 36, .pick (.t 31) (.c (.bool true)) (.t 35)⟩,
     ⟨none, some 37, .mov (.t 36)⟩,
     ⟨some (37, false), some 38, .fld (.t 12) 0⟩,
     ⟨some (37, false), some 39, .ld (.t 38) none⟩,
     ⟨some (37, false), some 40, .bin .neq (.t 39) (.c (.int .u8 2))⟩,
     ⟨none, some 41, .pick (.t 37) (.c (.bool true)) (.t 40)⟩,
     ⟨none, some 42, .mov (.t 41)⟩,
     ⟨some (42, false), some 43, .fld (.t 12) 1⟩,
     ⟨some (42, false), some 44, .ld (.t 43) none⟩,
     ⟨some (42, false), some 45, .mov (.t 2)⟩,
     ⟨some (42, false), some 46, .bin .neq (.t 44) (.t 45)⟩,
     ⟨none, some 47, .pick (.t 42) (.c (.bool true)) (.t 46)⟩,
     ⟨none, some 48, .mov (.t 47)⟩,
     ⟨some (48, false), some 49, .fld (.t 12) 2⟩,
     ⟨some (48, false), some 50, .ld (.t 49) none⟩,
     ⟨some (48, false), some 51, .mov (.t 3)⟩,
     ⟨some (48, false), some 52, .bin .sub (.t 51) (.c (.int .i64 1))⟩,
     ⟨some (48, false), some 53, .bin .neq (.t 50) (.t 52)⟩,
     ⟨none, some 54, .pick (.t 48) (.c (.bool true)) (.t 53)⟩,
     ⟨none, some 55, .mov (.t 54)⟩,
     ⟨some (55, false), some 56, .fld (.t 12) 3⟩,
     ⟨some (55, false), some 57, .ld (.t 56) none⟩,
     ⟨some (55, false), some 58, .fld (.t 5) 0⟩,
     ⟨some (55, false), some 59, .ld (.t 58) none⟩,
     ⟨some (55, false), some 60, .bin .neq (.t 57) (.t 59)⟩,
     ⟨none, some 61, .pick (.t 55) (.c (.bool true)) (.t 60)⟩,
     ⟨none, some 62, .mov (.t 61)⟩,
     ⟨some (62, false), some 63, .fld (.t 12) 4⟩,
     ⟨some (62, false), some 64, .ld (.t 63) none⟩,
     ⟨some (62, false), some 65, .len false (.t 64)⟩,
     ⟨some (62, false), some 66, .mov (.t 1)⟩,
     ⟨some (62, false), some 67, .bin .neq (.t 65) (.t 66)⟩,
     ⟨none, some 68, .pick (.t 62) (.c (.bool true)) (.t 67)⟩])
  (.cond (.t 68) (.seq (.region [⟨none, some 69, .build [.int .i64 0, .lit (.slice none 0 0)] []⟩,
      ⟨none, none, .st (.t 10) (.t 69) 2⟩,
      ⟨none, some 11, .asg (.c (.int .i64 8))⟩])
   (.ret))
   (.skip)))
 (.seq (.region [⟨none, some 70, .fld (.t 12) 2⟩,
    ⟨none, some 71, .ld (.t 70) none⟩,
    ⟨none, some 72, .fld (.t 12) 4⟩,
    ⟨none, some 73, .ld (.t 72) none⟩,
    ⟨none, some 74, .build [.int .i64 0, .lit (.slice none 0 0)] [(0, 1, (.t 71)), (1, 1, (.t 73))]⟩,
    ⟨none, none, .st (.t 10) (.t 74) 2⟩,
    ⟨none, some 11, .asg (.c (.int .i64 0))⟩])
 (.ret)))))
theorem collect_Well.k : chkFn Go.Proofs.Try.prog 5 75 [.cell 10 (some 2), .tmp 11] collect_Well.c = true := by kernel_rfl

/-- conclave/collect.may: function 13; parameters: api.Plan, int, int; results: bool -/
def collect_may.c : ACode :=
 .seq (.region [⟨none, some 3, .box (.t 0)⟩,
    ⟨none, some 6, .asg (.c (.bool false))⟩])
 (.seq (.region [⟨none, some 7, .ld (.t 3) (some 8)⟩,
    ⟨none, some 8, .call 22 [(.t 7)]⟩,
    ⟨none, some 9, .mov (.t 8)⟩,
    ⟨some (9, true), some 10, .mov (.t 1)⟩,
    ⟨some (9, true), some 11, .bin .geq (.t 10) (.c (.int .i64 0))⟩,
    ⟨none, some 12, .pick (.t 9) (.t 11) (.c (.bool false))⟩,
    ⟨none, some 13, .mov (.t 12)⟩,
    ⟨some (13, true), some 14, .mov (.t 1)⟩,
    ⟨some (13, true), some 15, .bin .leq (.t 14) (.c (.int .i64 64))⟩,
    ⟨none, some 16, .pick (.t 13) (.t 15) (.c (.bool false))⟩,
    ⟨none, some 17, .mov (.t 16)⟩,
    ⟨some (17, true), some 18, .mov (.t 2)⟩,
    ⟨some (17, true), some 19, .bin .geq (.t 18) (.c (.int .i64 0))⟩,
    ⟨none, some 20, .pick (.t 17) (.t 19) (.c (.bool false))⟩,
    ⟨none, some 21, .mov (.t 20)⟩,
    ⟨some (21, true), some 22, .mov (.t 2)⟩,
    ⟨some (21, true), some 23, .bin .lss (.t 22) (.c (.int .i64 65536))⟩,
    ⟨none, some 24, .pick (.t 21) (.t 23) (.c (.bool false))⟩,
    ⟨none, some 6, .asg (.t 24)⟩])
 (.ret))
theorem collect_may.k : chkFn Go.Proofs.Try.prog 13 25 [.tmp 6] collect_may.c = true := by kernel_rfl

/-- conclave/collect.First: function 8; parameters: api.Plan, int, int, []api.Packet; results: []api.Reply, api.Errno -/
def collect_First.c : ACode :=
 .seq (.region [⟨none, some 4, .box (.t 0)⟩,
    ⟨none, some 8, .asg (.c (.lit (.slice none 0 0)))⟩,
    ⟨none, some 9, .asg (.c (.int .i64 0))⟩])
 (.scope (.seq (.seq (.region [⟨none, some 16, .ld (.t 4) (some 8)⟩,
      ⟨none, some 17, .mov (.t 1)⟩,
      ⟨none, some 18, .mov (.t 2)⟩,
      ⟨none, some 19, .call 13 [(.t 16), (.t 17), (.t 18)]⟩,
      ⟨none, some 20, .not (.t 19)⟩])
   (.cond (.t 20) (.seq (.region [⟨none, some 8, .asg (.c (.lit (.slice none 0 0)))⟩,
       ⟨none, some 9, .asg (.c (.int .i64 2))⟩])
    (.ret))
    (.skip)))
  (.seq (.region [⟨none, some 10, .alloc (List.replicate 64 (.bool false))⟩])
  (.seq (.region [⟨none, some 11, .asg (.c (.lit (.slice none 0 0)))⟩])
  (.seq (.label 0)
  (.seq (.seq (.region [⟨none, some 21, .mov (.t 3)⟩,
      ⟨none, some 22, .len false (.t 21)⟩,
      ⟨none, some 23, .mov (.c (.int .i64 0))⟩])
   (.block 0 (.loop (.seq (.region [⟨none, some 24, .bin .lss (.t 23) (.t 22)⟩])
     (.seq (.cond (.t 24) (.skip)
       (.exit 0))
     (.seq (.block 1 (.seq (.region [⟨none, some 25, .idx (.t 21) (.t 23) 3⟩,
          ⟨none, some 26, .ld (.t 25) (some 3)⟩,
          ⟨none, some 13, .alloc [.int .i64 0, .int .i64 0, .lit (.slice none 0 0)]⟩,
          ⟨none, none, .st (.t 13) (.t 26) 3⟩])
       (.seq (.seq (.region [⟨none, some 27, .fld (.t 13) 1⟩,
           ⟨none, some 28, .ld (.t 27) none⟩,
           ⟨none, some 29, .bin .neq (.t 28) (.c (.int .i64 0))⟩])
        (.cond (.t 29) (.exit 1)
         (.skip)))
       (.seq (.region [⟨none, some 31, .ld (.t 4) (some 8)⟩,
          ⟨none, some 32, .mov (.t 1)⟩,
          ⟨none, some 33, .mov (.t 2)⟩,
          ⟨none, some 34, .fld (.t 13) 0⟩,
          ⟨none, some 35, .ld (.t 34) none⟩,
          ⟨none, some 36, .fld (.t 13) 2⟩,
          ⟨none, some 37, .ld (.t 36) none⟩,
          ⟨none, some 38, .call 5 [(.t 31), (.t 32), (.t 33), (.t 35), (.t 37)]⟩,
          ⟨none, some 30, .mov (.t 38)⟩,
          ⟨none, some 39, .ext (.t 30) 0⟩,
          ⟨none, some 40, .ext (.t 30) 1⟩,
          ⟨none, some 14, .alloc [.int .i64 0, .lit (.slice none 0 0)]⟩,
          ⟨none, none, .st (.t 14) (.t 39) 2⟩,
          ⟨none, some 15, .asg (.t 40)⟩])
       (.seq (.seq (.region [⟨none, some 41, .mov (.t 15)⟩,
           ⟨none, some 42, .bin .neq (.t 41) (.c (.int .i64 0))⟩,
           ⟨none, some 43, .mov (.t 42)⟩,
           ⟨some (43, false), some 44, .fld (.t 14) 0⟩,
           ⟨some (43, false), some 45, .ld (.t 44) none⟩,
           ⟨some (43, false), some 46, .idxA (.t 10) (.t 45) 1 64⟩,
           ⟨some (43, false), some 47, .ld (.t 46) none⟩,
           ⟨none, some 48, .pick (.t 43) (.c (.bool true)) (.t 47)⟩])
        (.cond (.t 48) (.exit 1)
         (.skip)))
       (.seq (.region [⟨none, some 49, .fld (.t 14) 0⟩,
          ⟨none, some 50, .ld (.t 49) none⟩,
          ⟨none, some 51, .idxA (.t 10) (.t 50) 1 64⟩,
          ⟨none, none, .st (.t 51) (.c (.bool true)) 1⟩])
       (.region [⟨none, some 52, .mov (.t 11)⟩,
         ⟨none, some 53, .ld (.t 14) (some 2)⟩,
         ⟨none, some 54, .bslice 1 [.int .i64 0, .lit (.slice none 0 0)] [(0, 2, (.t 53))]⟩,
         ⟨none, some 55, .app (.t 52) (.t 54) 2 32⟩,
         ⟨none, some 11, .asg (.t 55)⟩])))))))
     (.region [⟨none, some 56, .bin .add (.t 23) (.c (.int .i64 1))⟩,
       ⟨none, some 23, .mov (.t 56)⟩])))))))
  (.seq (.region [⟨none, some 57, .mov (.t 11)⟩,
     ⟨none, some 8, .asg (.t 57)⟩,
     ⟨none, some 9, .asg (.c (.int .i64 0))⟩])
  (.ret))))))))
abbrev collect_First.D0 : List Nat := [11, 13, 14, 15, 23, 24, 25, 26, 27, 28, 29, 30, 31, 32, 33, 34, 35, 36, 37, 38, 39, 40, 41, 42, 43, 44, 45, 46, 47, 48, 49, 50, 51, 52, 53, 54, 55, 56]
abbrev collect_First.K0 : List Nat := [11, 13, 14, 15, 23, 24, 25, 26, 27, 28, 29, 30, 31, 32, 33, 34, 35, 36, 37, 38, 39, 40, 41, 42, 43, 44, 45, 46, 47, 48, 49, 50, 51, 52, 53, 54, 55, 56]
abbrev collect_First.K1 : List Nat := [11, 13, 14, 15, 25, 26, 27, 28, 29, 30, 31, 32, 33, 34, 35, 36, 37, 38, 39, 40, 41, 42, 43, 44, 45, 46, 47, 48, 49, 50, 51, 52, 53, 54, 55]
theorem collect_First.k : chkFn Go.Proofs.Try.prog 8 58 [.tmp 8, .tmp 9] collect_First.c = true := by kernel_rfl

/-- conclave/plan.May: function 22; parameters: api.Plan; results: bool -/
def plan_May.c : ACode :=
 .seq (.region [⟨none, some 1, .box (.t 0)⟩,
    ⟨none, some 2, .asg (.c (.bool false))⟩])
 (.seq (.region [⟨none, some 3, .fld (.t 1) 0⟩,
    ⟨none, some 4, .ld (.t 3) none⟩,
    ⟨none, some 5, .bin .eql (.t 4) (.c (.int .u8 1))⟩,
    ⟨none, some 6, .mov (.t 5)⟩,
    ⟨some (6, false), some 7, .fld (.t 1) 0⟩,
    ⟨some (6, false), some 8, .ld (.t 7) none⟩,
    ⟨some (6, false), some 9, .bin .eql (.t 8) (.c (.int .u8 2))⟩,
    ⟨none, some 10, .pick (.t 6) (.c (.bool true)) (.t 9)⟩,
    ⟨none, some 11, .mov (.t 10)⟩,
    ⟨some (11, true), some 12, .fld (.t 1) 1⟩,
    ⟨some (11, true), some 13, .ld (.t 12) none⟩,
    ⟨some (11, true), some 14, .call 35 [(.t 13), (.c (.int .i64 1)), (.c (.int .i64 64))]⟩,
    ⟨none, some 15, .pick (.t 11) (.t 14) (.c (.bool false))⟩,
    ⟨none, some 16, .mov (.t 15)⟩,
    ⟨some (16, true), some 17, .fld (.t 1) 2⟩,
    ⟨some (16, true), some 18, .ld (.t 17) none⟩,
    ⟨some (16, true), some 19, .call 35 [(.t 18), (.c (.int .i64 1)), (.c (.int .i64 64))]⟩,
    ⟨none, some 20, .pick (.t 16) (.t 19) (.c (.bool false))⟩,
    ⟨none, some 21, .mov (.t 20)⟩,
    ⟨some (21, true), some 22, .fld (.t 1) 7⟩,
    ⟨some (21, true), some 23, .ld (.t 22) none⟩,
    ⟨some (21, true), some 24, .call 35 [(.t 23), (.c (.int .i64 1)), (.c (.int .i64 64))]⟩,
    ⟨none, some 25, .pick (.t 21) (.t 24) (.c (.bool false))⟩,
    ⟨none, some 26, .mov (.t 25)⟩,
    ⟨some (26, true), some 27, .fld (.t 1) 3⟩,
    ⟨some (26, true), some 28, .ld (.t 27) none⟩,
    ⟨some (26, true), some 29, .call 35 [(.t 28), (.c (.int .i64 0)), (.c (.int .i64 64))]⟩,
    ⟨none, some 30, .pick (.t 26) (.t 29) (.c (.bool false))⟩,
    ⟨none, some 31, .mov (.t 30)⟩,
    ⟨some (31, true), some 32, .fld (.t 1) 2⟩,
    ⟨some (31, true), some 33, .ld (.t 32) none⟩,
    ⟨some (31, true), some 34, .fld (.t 1) 3⟩,
    ⟨some (31, true), some 35, .ld (.t 34) none⟩,
    ⟨some (31, true), some 36, .bin .add (.t 33) (.t 35)⟩,
    ⟨some (31, true), some 37, .bin .leq (.t 36) (.c (.int .i64 64))⟩,
    ⟨none, some 38, .pick (.t 31) (.t 37) (.c (.bool false))⟩,
    ⟨none, some 39, .mov (.t 38)⟩,
    ⟨some (39, true), some 40, .fld (.t 1) 4⟩,
    ⟨some (39, true), some 41, .ld (.t 40) none⟩,
    ⟨some (39, true), some 42, .call 35 [(.t 41), (.c (.int .i64 0)), (.c (.int .i64 64))]⟩,
    ⟨none, some 43, .pick (.t 39) (.t 42) (.c (.bool false))⟩,
    ⟨none, some 44, .mov (.t 43)⟩,
    ⟨some (44, true), some 45, .fld (.t 1) 5⟩,
    ⟨some (44, true), some 46, .ld (.t 45) none⟩,
    ⟨some (44, true), some 47, .call 35 [(.t 46), (.c (.int .i64 0)), (.c (.int .i64 64))]⟩,
    ⟨none, some 48, .pick (.t 44) (.t 47) (.c (.bool false))⟩,
    ⟨none, some 49, .mov (.t 48)⟩,
    ⟨some (49, true), some 50, .fld (.t 1) 6⟩,
    ⟨some (49, true), some 51, .ld (.t 50) none⟩,
    ⟨some (49, true), some 52, .call 35 [(.t 51), (.c (.int .i64 0)), (.c (.int .i64 1024))]⟩,
    ⟨none, some 53, .pick (.t 49) (.t 52) (.c (.bool false))⟩,
    ⟨none, some 2, .asg (.t 53)⟩])
 (.ret))
theorem plan_May.k : chkFn Go.Proofs.Try.prog 22 54 [.tmp 2] plan_May.c = true := by kernel_rfl

/-- conclave/plan.within: function 35; parameters: int, int, int; results: bool -/
def plan_within.c : ACode :=
 .seq (.region [⟨none, some 6, .asg (.c (.bool false))⟩])
 (.seq (.region [⟨none, some 7, .mov (.t 0)⟩,
    ⟨none, some 8, .mov (.t 1)⟩,
    ⟨none, some 9, .bin .geq (.t 7) (.t 8)⟩,
    ⟨none, some 10, .mov (.t 9)⟩,
    ⟨some (10, true), some 11, .mov (.t 0)⟩,
    ⟨some (10, true), some 12, .mov (.t 2)⟩,
    ⟨some (10, true), some 13, .bin .leq (.t 11) (.t 12)⟩,
    ⟨none, some 14, .pick (.t 10) (.t 13) (.c (.bool false))⟩,
    ⟨none, some 6, .asg (.t 14)⟩])
 (.ret))
theorem plan_within.k : chkFn Go.Proofs.Try.prog 35 15 [.tmp 6] plan_within.c = true := by kernel_rfl

end Go.Proofs.Ytilhkgfhhkkolaa.C
