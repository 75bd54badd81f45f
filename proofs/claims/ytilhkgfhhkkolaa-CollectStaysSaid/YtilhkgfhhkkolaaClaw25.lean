import Derived.Test.YtilhkgfhhkkolaaAdef
import Derived.Test.YtilhkgfhhkkolaaProg
import Derived.KernelRfl
namespace Go.Proofs.Ytilhkgfhhkkolaa.C
open Go Go.RowKit Go.Proofs.Ytilhkgfhhkkolaa.AL

/-- conclave/conclavelaw25.same: function 10; parameters: []api.Reply, []api.Reply; results: bool -/
def law25_same.c : ACode :=
 .seq (.region [⟨none, some 4, .asg (.c (.bool false))⟩])
 (.seq (.seq (.region [⟨none, some 6, .mov (.t 0)⟩,
     ⟨none, some 7, .len false (.t 6)⟩,
     ⟨none, some 8, .mov (.t 1)⟩,
     ⟨none, some 9, .len false (.t 8)⟩,
     ⟨none, some 10, .bin .neq (.t 7) (.t 9)⟩])
  (.cond (.t 10) (.seq (.region [⟨none, some 4, .asg (.c (.bool false))⟩])
   (.ret))
   (.skip)))
 (.seq (.seq (.region [⟨none, some 5, .asg (.c (.int .i64 0))⟩])
  (.block 0 (.loop (.seq (.seq (.region [⟨none, some 11, .mov (.t 5)⟩,
        ⟨none, some 12, .mov (.t 0)⟩,
        ⟨none, some 13, .len false (.t 12)⟩,
        ⟨none, some 14, .bin .lss (.t 11) (.t 13)⟩])
     (.cond (.t 14) (.skip)
      (.exit 0)))
    (.seq (.block 1 (.seq (.draw (.pure 0 (.pure 1 (.pure 2 (.pure 3 (.pure 4 (.pure 5 (.pure 6 (.pure 7 (.pure 8 (.pure 9 (.pure 10 (.pure 11 (.pure 12 (.pure 13 (.pure 14 (.pure 15 (.pure 16 (.pure 17 (.pure 18 (.pure 19 (.pure 20 (.pure 21 (.alt 22 (.pure 23 (.pure 24 .nil)) .stop))))))))))))))))))))))) [(22, 4), (22, 9), (22, 16), (22, 21)] [⟨none, some 17, .mov (.t 0)⟩,
         ⟨none, some 18, .mov (.t 5)⟩,
         ⟨none, some 19, .idx (.t 17) (.t 18) 2⟩,
         ⟨none, some 20, .fld (.t 19) 0⟩,
         ⟨none, some 21, .ld (.t 20) none⟩,
         ⟨none, some 22, .mov (.t 1)⟩,
         ⟨none, some 23, .mov (.t 5)⟩,
         ⟨none, some 24, .idx (.t 22) (.t 23) 2⟩,
         ⟨none, some 25, .fld (.t 24) 0⟩,
         ⟨none, some 26, .ld (.t 25) none⟩,
         ⟨none, some 27, .bin .neq (.t 21) (.t 26)⟩,
         ⟨none, some 28, .mov (.t 27)⟩,
         ⟨some (28, false), some 29, .mov (.t 0)⟩,
         ⟨some (28, false), some 30, .mov (.t 5)⟩,
         ⟨some (28, false), some 31, .idx (.t 29) (.t 30) 2⟩,
         ⟨some (28, false), some 32, .fld (.t 31) 1⟩,
         ⟨some (28, false), some 33, .ld (.t 32) none⟩,
         ⟨some (28, false), some 34, .mov (.t 1)⟩,
         ⟨some (28, false), some 35, .mov (.t 5)⟩,
         ⟨some (28, false), some 36, .idx (.t 34) (.t 35) 2⟩,
         ⟨some (28, false), some 37, .fld (.t 36) 1⟩,
         ⟨some (28, false), some 38, .ld (.t 37) none⟩,
         ⟨some (28, false), some 39, .call 7 [(.t 33), (.t 38)]⟩,
         ⟨some (28, false), some 40, .not (.t 39)⟩,
         ⟨none, some 41, .pick (.t 28) (.c (.bool true)) (.t 40)⟩])
      (.cond (.t 41) (.seq (.region [⟨none, some 4, .asg (.c (.bool false))⟩])
       (.ret))
       (.skip))))
    (.region [⟨none, some 15, .mov (.t 5)⟩,
      ⟨none, some 16, .bin .add (.t 15) (.c (.int .i64 1))⟩,
      ⟨none, some 5, .asg (.t 16)⟩]))))))
 (.seq (.region [⟨none, some 4, .asg (.c (.bool true))⟩])
 (.ret))))
abbrev law25_same.D0 : List Nat := [4, 5, 11, 12, 13, 14, 15, 16, 17, 18, 19, 20, 21, 22, 23, 24, 25, 26, 27, 28, 29, 30, 31, 32, 33, 34, 35, 36, 37, 38, 39, 40, 41]
abbrev law25_same.K0 : List Nat := [4, 5, 11, 12, 13, 14, 15, 16, 17, 18, 19, 20, 21, 22, 23, 24, 25, 26, 27, 28, 29, 30, 31, 32, 33, 34, 35, 36, 37, 38, 39, 40, 41]
abbrev law25_same.K1 : List Nat := [4, 17, 18, 19, 20, 21, 22, 23, 24, 25, 26, 27, 28, 29, 30, 31, 32, 33, 34, 35, 36, 37, 38, 39, 40, 41]
theorem law25_same.k : chkFn Go.Proofs.Try.prog 10 42 [.tmp 4] law25_same.c = true := by kernel_rfl

/-- conclave/conclavelaw25.anchored: function 11; parameters: ; results: bool -/
def law25_anchored.c : ACode :=
 .seq (.region [⟨none, some 0, .asg (.c (.bool false))⟩])
 (.seq (.region [⟨none, some 8, .bslice 1 [.int .u64 0] [(0, 1, (.c (.int .u64 15)))]⟩,
    ⟨none, some 9, .build [.int .u8 0, .int .i64 0, .int .i64 0, .int .u8 0, .lit (.slice none 0 0)] [(0, 1, (.c (.int .u8 2))), (2, 1, (.c (.int .i64 2))), (3, 1, (.c (.int .u8 1))), (4, 1, (.t 8))]⟩,
    ⟨none, some 10, .call 18 [(.t 9)]⟩,
    ⟨none, some 7, .mov (.t 10)⟩,
    ⟨none, some 11, .ext (.t 7) 0⟩,
    ⟨none, some 12, .ext (.t 7) 1⟩,
    ⟨none, some 1, .asg (.t 11)⟩,
    ⟨none, some 2, .asg (.t 12)⟩])
 (.seq (.region [⟨none, some 14, .call 19 []⟩,
    ⟨none, some 15, .mov (.t 1)⟩,
    ⟨none, some 16, .call 5 [(.t 14), (.c (.int .i64 1)), (.c (.int .i64 0)), (.c (.int .i64 3)), (.t 15)]⟩,
    ⟨none, some 13, .mov (.t 16)⟩,
    ⟨none, some 17, .ext (.t 13) 0⟩,
    ⟨none, some 18, .ext (.t 13) 1⟩,
    ⟨none, some 3, .alloc [.int .i64 0, .lit (.slice none 0 0)]⟩,
    ⟨none, none, .st (.t 3) (.t 17) 2⟩,
    ⟨none, some 4, .asg (.t 18)⟩])
 (.seq (.region [⟨none, some 20, .call 19 []⟩,
    ⟨none, some 21, .mov (.t 1)⟩,
    ⟨none, some 22, .call 5 [(.t 20), (.c (.int .i64 1)), (.c (.int .i64 0)), (.c (.int .i64 2)), (.t 21)]⟩,
    ⟨none, some 19, .mov (.t 22)⟩,
    ⟨none, some 23, .ext (.t 19) 0⟩,
    ⟨none, some 24, .ext (.t 19) 1⟩,
    ⟨none, some 5, .alloc [.int .i64 0, .lit (.slice none 0 0)]⟩,
    ⟨none, none, .st (.t 5) (.t 23) 2⟩,
    ⟨none, some 6, .asg (.t 24)⟩])
 (.seq (.region [⟨none, some 25, .mov (.t 4)⟩,
    ⟨none, some 26, .bin .eql (.t 25) (.c (.int .i64 0))⟩,
    ⟨none, some 27, .mov (.t 26)⟩,
    ⟨some (27, true), some 28, .mov (.t 6)⟩,
    ⟨some (27, true), some 29, .bin .eql (.t 28) (.c (.int .i64 8))⟩,
    ⟨none, some 30, .pick (.t 27) (.t 29) (.c (.bool false))⟩,
    ⟨none, some 31, .mov (.t 30)⟩,
    ⟨some (31, true), some 32, .fld (.t 3) 0⟩,
    ⟨some (31, true), some 33, .ld (.t 32) none⟩,
    ⟨some (31, true), some 34, .bin .eql (.t 33) (.c (.int .i64 2))⟩,
    ⟨none, some 35, .pick (.t 31) (.t 34) (.c (.bool false))⟩,
    ⟨none, some 36, .mov (.t 35)⟩,
    ⟨some (36, true), some 37, .fld (.t 3) 1⟩,
    ⟨some (36, true), some 38, .ld (.t 37) none⟩,
    ⟨some (36, true), some 39, .bslice 1 [.int .u64 0] [(0, 1, (.c (.int .u64 15)))]⟩,
    ⟨some (36, true), some 40, .call 7 [(.t 38), (.t 39)]⟩,
    ⟨none, some 41, .pick (.t 36) (.t 40) (.c (.bool false))⟩,
    ⟨none, some 0, .asg (.t 41)⟩])
 (.ret)))))
theorem law25_anchored.k : chkFn Go.Proofs.Try.prog 11 42 [.tmp 0] law25_anchored.c = true := by kernel_rfl

/-- conclave/conclavelaw25.five: function 19; parameters: ; results: api.Plan -/
def law25_five.c : ACode :=
 .seq (.region [⟨none, some 0, .alloc [.int .u8 0, .int .i64 0, .int .i64 0, .int .i64 0, .int .i64 0, .int .i64 0, .int .i64 0, .int .i64 0]⟩])
 (.seq (.region [⟨none, some 1, .build [.int .u8 0, .int .i64 0, .int .i64 0, .int .i64 0, .int .i64 0, .int .i64 0, .int .i64 0, .int .i64 0] [(0, 1, (.c (.int .u8 1))), (1, 1, (.c (.int .i64 5))), (2, 1, (.c (.int .i64 2))), (3, 1, (.c (.int .i64 1))), (5, 1, (.c (.int .i64 1))), (6, 1, (.c (.int .i64 1))), (7, 1, (.c (.int .i64 1)))]⟩,
    ⟨none, none, .st (.t 0) (.t 1) 8⟩])
 (.ret))
theorem law25_five.k : chkFn Go.Proofs.Try.prog 19 2 [.cell 0 (some 8)] law25_five.c = true := by kernel_rfl

/-- conclave/conclavelaw25.CollectFirst: function 3; parameters: api.Plan, [3]int, []api.Packet; results: bool -/
def law25_CollectFirst.c : ACode :=
 .seq (.region [⟨none, some 3, .box (.t 0)⟩,
    ⟨none, some 4, .box (.t 1)⟩,
    ⟨none, some 6, .asg (.c (.bool false))⟩])
 (.seq (.seq (.region [⟨none, some 7, .asg (.c (.int .i64 0))⟩])
  (.block 0 (.loop (.seq (.seq (.region [⟨none, some 16, .mov (.t 7)⟩,
        ⟨none, some 17, .mov (.t 2)⟩,
        ⟨none, some 18, .len false (.t 17)⟩,
        ⟨none, some 19, .bin .lss (.t 16) (.t 18)⟩])
     (.cond (.t 19) (.skip)
      (.exit 0)))
    (.seq (.block 1 (.seq (.draw (.pure 0 (.pure 1 (.pure 2 (.pure 3 (.pure 4 (.pure 5 (.pure 6 (.pure 7 (.pure 8 (.pure 9 (.pure 10 (.pure 11 (.pure 12 (.pure 13 (.pure 14 (.alt 15 (.pure 16 (.pure 17 (.pure 18 (.alt 19 (.alt 20 (.alt 21 .nil .stop) .stop) .stop)))) (.alt 19 (.alt 15 (.pure 16 (.pure 17 (.pure 18 (.alt 20 (.alt 21 .nil .stop) .stop)))) .stop) .stop))))))))))))))))) [(15, 0), (15, 2), (15, 4), (15, 9), (15, 14), (20, 0), (20, 2), (20, 4), (20, 9), (20, 14), (21, 0), (21, 2), (21, 4), (21, 9), (21, 14)] [⟨none, some 23, .ld (.t 3) (some 8)⟩,
         ⟨none, some 24, .idxA (.t 4) (.c (.int .i64 0)) 1 3⟩,
         ⟨none, some 25, .ld (.t 24) none⟩,
         ⟨none, some 26, .idxA (.t 4) (.c (.int .i64 1)) 1 3⟩,
         ⟨none, some 27, .ld (.t 26) none⟩,
         ⟨none, some 28, .mov (.t 2)⟩,
         ⟨none, some 29, .mov (.t 7)⟩,
         ⟨none, some 30, .idx (.t 28) (.t 29) 3⟩,
         ⟨none, some 31, .fld (.t 30) 0⟩,
         ⟨none, some 32, .ld (.t 31) none⟩,
         ⟨none, some 33, .mov (.t 2)⟩,
         ⟨none, some 34, .mov (.t 7)⟩,
         ⟨none, some 35, .idx (.t 33) (.t 34) 3⟩,
         ⟨none, some 36, .fld (.t 35) 2⟩,
         ⟨none, some 37, .ld (.t 36) none⟩,
         ⟨none, some 38, .call 5 [(.t 23), (.t 25), (.t 27), (.t 32), (.t 37)]⟩,
         ⟨none, some 22, .mov (.t 38)⟩,
         ⟨none, some 39, .ext (.t 22) 0⟩,
         ⟨none, some 40, .ext (.t 22) 1⟩,
         ⟨none, some 8, .alloc [.int .i64 0, .lit (.slice none 0 0)]⟩,
         ⟨none, none, .st (.t 8) (.t 39) 2⟩,
         ⟨none, some 9, .asg (.t 40)⟩])
      (.seq (.draw (.pure 0 (.pure 1 (.pure 2 (.pure 3 (.pure 4 (.pure 5 (.pure 6 (.pure 7 (.pure 8 (.pure 9 (.pure 10 (.pure 11 (.pure 12 (.pure 13 (.pure 14 (.alt 15 (.pure 16 (.pure 17 (.pure 18 (.alt 19 (.alt 20 (.alt 21 .nil .stop) .stop) .stop)))) (.alt 19 (.alt 15 (.pure 16 (.pure 17 (.pure 18 (.alt 20 (.alt 21 .nil .stop) .stop)))) .stop) .stop))))))))))))))))) [(15, 0), (15, 2), (15, 4), (15, 9), (15, 14), (20, 0), (20, 2), (20, 4), (20, 9), (20, 14), (21, 0), (21, 2), (21, 4), (21, 9), (21, 14)] [⟨none, some 42, .ld (.t 3) (some 8)⟩,
         ⟨none, some 43, .idxA (.t 4) (.c (.int .i64 0)) 1 3⟩,
         ⟨none, some 44, .ld (.t 43) none⟩,
         ⟨none, some 45, .idxA (.t 4) (.c (.int .i64 1)) 1 3⟩,
         ⟨none, some 46, .ld (.t 45) none⟩,
         ⟨none, some 47, .mov (.t 2)⟩,
         ⟨none, some 48, .mov (.t 7)⟩,
         ⟨none, some 49, .idx (.t 47) (.t 48) 3⟩,
         ⟨none, some 50, .fld (.t 49) 0⟩,
         ⟨none, some 51, .ld (.t 50) none⟩,
         ⟨none, some 52, .mov (.t 2)⟩,
         ⟨none, some 53, .mov (.t 7)⟩,
         ⟨none, some 54, .idx (.t 52) (.t 53) 3⟩,
         ⟨none, some 55, .fld (.t 54) 2⟩,
         ⟨none, some 56, .ld (.t 55) none⟩,
         ⟨none, some 57, .call 6 [(.t 42), (.t 44), (.t 46), (.t 51), (.t 56)]⟩,
         ⟨none, some 41, .mov (.t 57)⟩,
         ⟨none, some 58, .ext (.t 41) 0⟩,
         ⟨none, some 59, .ext (.t 41) 1⟩,
         ⟨none, some 10, .alloc [.int .i64 0, .lit (.slice none 0 0)]⟩,
         ⟨none, none, .st (.t 10) (.t 58) 2⟩,
         ⟨none, some 11, .asg (.t 59)⟩])
      (.seq (.region [⟨none, some 60, .fld (.t 8) 0⟩,
         ⟨none, some 61, .ld (.t 60) none⟩,
         ⟨none, some 62, .fld (.t 10) 0⟩,
         ⟨none, some 63, .ld (.t 62) none⟩,
         ⟨none, some 64, .bin .neq (.t 61) (.t 63)⟩,
         ⟨none, some 65, .mov (.t 64)⟩,
         ⟨some (65, false), some 66, .fld (.t 8) 1⟩,
         ⟨some (65, false), some 67, .ld (.t 66) none⟩,
         ⟨some (65, false), some 68, .fld (.t 10) 1⟩,
         ⟨some (65, false), some 69, .ld (.t 68) none⟩,
         ⟨some (65, false), some 70, .call 7 [(.t 67), (.t 69)]⟩,
         ⟨some (65, false), some 71, .not (.t 70)⟩,
         ⟨none, some 72, .pick (.t 65) (.c (.bool true)) (.t 71)⟩,
         ⟨none, some 73, .mov (.t 72)⟩,
         ⟨some (73, false), some 74, .mov (.t 9)⟩,
         ⟨some (73, false), some 75, .mov (.t 11)⟩,
         ⟨some (73, false), some 76, .bin .neq (.t 74) (.t 75)⟩,
         ⟨none, some 77, .pick (.t 73) (.c (.bool true)) (.t 76)⟩])
      (.cond (.t 77) (.seq (.region [⟨none, some 6, .asg (.c (.bool false))⟩])
       (.ret))
       (.skip))))))
    (.region [⟨none, some 20, .mov (.t 7)⟩,
      ⟨none, some 21, .bin .add (.t 20) (.c (.int .i64 1))⟩,
      ⟨none, some 7, .asg (.t 21)⟩]))))))
 (.seq (.region [⟨none, some 79, .ld (.t 3) (some 8)⟩,
    ⟨none, some 80, .idxA (.t 4) (.c (.int .i64 0)) 1 3⟩,
    ⟨none, some 81, .ld (.t 80) none⟩,
    ⟨none, some 82, .idxA (.t 4) (.c (.int .i64 1)) 1 3⟩,
    ⟨none, some 83, .ld (.t 82) none⟩,
    ⟨none, some 84, .mov (.t 2)⟩,
    ⟨none, some 85, .call 8 [(.t 79), (.t 81), (.t 83), (.t 84)]⟩,
    ⟨none, some 78, .mov (.t 85)⟩,
    ⟨none, some 86, .ext (.t 78) 0⟩,
    ⟨none, some 87, .ext (.t 78) 1⟩,
    ⟨none, some 12, .asg (.t 86)⟩,
    ⟨none, some 13, .asg (.t 87)⟩])
 (.seq (.region [⟨none, some 89, .ld (.t 3) (some 8)⟩,
    ⟨none, some 90, .idxA (.t 4) (.c (.int .i64 0)) 1 3⟩,
    ⟨none, some 91, .ld (.t 90) none⟩,
    ⟨none, some 92, .idxA (.t 4) (.c (.int .i64 1)) 1 3⟩,
    ⟨none, some 93, .ld (.t 92) none⟩,
    ⟨none, some 94, .mov (.t 2)⟩,
    ⟨none, some 95, .call 9 [(.t 89), (.t 91), (.t 93), (.t 94)]⟩,
    ⟨none, some 88, .mov (.t 95)⟩,
    ⟨none, some 96, .ext (.t 88) 0⟩,
    ⟨none, some 97, .ext (.t 88) 1⟩,
    ⟨none, some 14, .asg (.t 96)⟩,
    ⟨none, some 15, .asg (.t 97)⟩])
 (.seq (.region [⟨none, some 98, .mov (.t 12)⟩,
    ⟨none, some 99, .mov (.t 14)⟩,
    ⟨none, some 100, .call 10 [(.t 98), (.t 99)]⟩,
    ⟨none, some 101, .mov (.t 100)⟩,
    ⟨some (101, true), some 102, .mov (.t 13)⟩,
    ⟨some (101, true), some 103, .mov (.t 15)⟩,
    ⟨some (101, true), some 104, .bin .eql (.t 102) (.t 103)⟩,
    ⟨none, some 105, .pick (.t 101) (.t 104) (.c (.bool false))⟩,
    ⟨none, some 106, .mov (.t 105)⟩,
    ⟨some (106, true), some 107, .call 11 []⟩,
    ⟨none, some 108, .pick (.t 106) (.t 107) (.c (.bool false))⟩,
    ⟨none, some 6, .asg (.t 108)⟩])
 (.ret)))))
abbrev law25_CollectFirst.D0 : List Nat := [6, 7, 8, 9, 10, 11, 16, 17, 18, 19, 20, 21, 22, 23, 24, 25, 26, 27, 28, 29, 30, 31, 32, 33, 34, 35, 36, 37, 38, 39, 40, 41, 42, 43, 44, 45, 46, 47, 48, 49, 50, 51, 52, 53, 54, 55, 56, 57, 58, 59, 60, 61, 62, 63, 64, 65, 66, 67, 68, 69, 70, 71, 72, 73, 74, 75, 76, 77]
abbrev law25_CollectFirst.K0 : List Nat := [6, 7, 8, 9, 10, 11, 16, 17, 18, 19, 20, 21, 22, 23, 24, 25, 26, 27, 28, 29, 30, 31, 32, 33, 34, 35, 36, 37, 38, 39, 40, 41, 42, 43, 44, 45, 46, 47, 48, 49, 50, 51, 52, 53, 54, 55, 56, 57, 58, 59, 60, 61, 62, 63, 64, 65, 66, 67, 68, 69, 70, 71, 72, 73, 74, 75, 76, 77]
abbrev law25_CollectFirst.K1 : List Nat := [6, 8, 9, 10, 11, 22, 23, 24, 25, 26, 27, 28, 29, 30, 31, 32, 33, 34, 35, 36, 37, 38, 39, 40, 41, 42, 43, 44, 45, 46, 47, 48, 49, 50, 51, 52, 53, 54, 55, 56, 57, 58, 59, 60, 61, 62, 63, 64, 65, 66, 67, 68, 69, 70, 71, 72, 73, 74, 75, 76, 77]
theorem law25_CollectFirst.k : chkFn Go.Proofs.Try.prog 3 109 [.tmp 6] law25_CollectFirst.c = true := by kernel_rfl

/-- conclave/conclavelaw25.CollectStays: function 4; parameters: api.Plan, [3]int, []api.Packet; results: bool -/
def law25_CollectStays.c : ACode :=
 .seq (.region [⟨none, some 3, .box (.t 0)⟩,
    ⟨none, some 4, .box (.t 1)⟩,
    ⟨none, some 6, .asg (.c (.bool false))⟩])
 (.seq (.region [⟨none, some 17, .ld (.t 3) (some 8)⟩,
    ⟨none, some 18, .idxA (.t 4) (.c (.int .i64 0)) 1 3⟩,
    ⟨none, some 19, .ld (.t 18) none⟩,
    ⟨none, some 20, .idxA (.t 4) (.c (.int .i64 1)) 1 3⟩,
    ⟨none, some 21, .ld (.t 20) none⟩,
    ⟨none, some 22, .mov (.t 2)⟩,
    ⟨none, some 23, .call 8 [(.t 17), (.t 19), (.t 21), (.t 22)]⟩,
    ⟨none, some 16, .mov (.t 23)⟩,
    ⟨none, some 24, .ext (.t 16) 0⟩,
    ⟨none, some 25, .ext (.t 16) 1⟩,
    ⟨none, some 7, .asg (.t 24)⟩,
    ⟨none, some 8, .asg (.t 25)⟩])
 (.seq (.seq (.region [⟨none, some 26, .mov (.t 8)⟩,
     ⟨none, some 27, .bin .neq (.t 26) (.c (.int .i64 0))⟩])
  (.cond (.t 27) (.seq (.region [⟨none, some 28, .call 11 []⟩,
      ⟨none, some 29, .mov (.t 28)⟩,
      ⟨some (29, true), some 30, .mov (.t 7)⟩,
      ⟨some (29, true), some 31, .len false (.t 30)⟩,
      ⟨some (29, true), some 32, .bin .eql (.t 31) (.c (.int .i64 0))⟩,
      ⟨none, some 33, .pick (.t 29) (.t 32) (.c (.bool false))⟩,
      ⟨none, some 6, .asg (.t 33)⟩])
   (.ret))
   (.skip)))
 (.seq (.region [⟨none, some 9, .asg (.c (.int .i64 0))⟩])
 (.seq (.seq (.region [⟨none, some 34, .mov (.t 2)⟩,
     ⟨none, some 35, .len false (.t 34)⟩,
     ⟨none, some 36, .bin .gtr (.t 35) (.c (.int .i64 0))⟩])
  (.cond (.t 36) (.region [⟨none, some 37, .idxA (.t 4) (.c (.int .i64 2)) 1 3⟩,
     ⟨none, some 38, .ld (.t 37) none⟩,
     ⟨none, some 39, .mov (.t 2)⟩,
     ⟨none, some 40, .len false (.t 39)⟩,
     ⟨none, some 41, .bin .rem (.t 38) (.t 40)⟩,
     ⟨none, some 42, .mov (.t 2)⟩,
     ⟨none, some 43, .len false (.t 42)⟩,
     ⟨none, some 44, .bin .add (.t 41) (.t 43)⟩,
     ⟨none, some 45, .mov (.t 2)⟩,
     ⟨none, some 46, .len false (.t 45)⟩,
     ⟨none, some 47, .bin .rem (.t 44) (.t 46)⟩,
     ⟨none, some 9, .asg (.t 47)⟩])
   (.skip)))
 (.seq (.draw (.pure 0 (.pure 1 (.pure 2 (.pure 3 (.pure 4 (.pure 5 (.pure 6 (.pure 7 (.pure 8 (.alt 9 (.pure 10 (.pure 11 (.pure 12 (.alt 13 (.alt 14 .nil .stop) .stop)))) .stop)))))))))) [(9, 0), (9, 2), (9, 4), (9, 8), (13, 0), (13, 2), (13, 4), (13, 8), (14, 0), (14, 2), (14, 4), (14, 8)] [⟨none, some 49, .ld (.t 3) (some 8)⟩,
    ⟨none, some 50, .idxA (.t 4) (.c (.int .i64 0)) 1 3⟩,
    ⟨none, some 51, .ld (.t 50) none⟩,
    ⟨none, some 52, .idxA (.t 4) (.c (.int .i64 1)) 1 3⟩,
    ⟨none, some 53, .ld (.t 52) none⟩,
    ⟨none, some 54, .mov (.t 2)⟩,
    ⟨none, some 55, .mov (.t 9)⟩,
    ⟨none, some 56, .mov (.t 9)⟩,
    ⟨none, some 57, .slc (.t 54) none (some (.t 55)) (some (.t 56)) 3⟩,
    ⟨none, some 58, .call 8 [(.t 49), (.t 51), (.t 53), (.t 57)]⟩,
    ⟨none, some 48, .mov (.t 58)⟩,
    ⟨none, some 59, .ext (.t 48) 0⟩,
    ⟨none, some 60, .ext (.t 48) 1⟩,
    ⟨none, some 10, .asg (.t 59)⟩,
    ⟨none, some 11, .asg (.t 60)⟩])
 (.seq (.seq (.region [⟨none, some 61, .mov (.t 11)⟩,
     ⟨none, some 62, .bin .neq (.t 61) (.c (.int .i64 0))⟩,
     ⟨none, some 63, .mov (.t 62)⟩,
     ⟨some (63, false), some 64, .mov (.t 10)⟩,
     ⟨some (63, false), some 65, .len false (.t 64)⟩,
     ⟨some (63, false), some 66, .mov (.t 7)⟩,
     ⟨some (63, false), some 67, .len false (.t 66)⟩,
     ⟨some (63, false), some 68, .bin .gtr (.t 65) (.t 67)⟩,
     ⟨none, some 69, .pick (.t 63) (.c (.bool true)) (.t 68)⟩,
     ⟨none, some 70, .mov (.t 69)⟩,
     ⟨some (70, false), some 71, .mov (.t 10)⟩,
     ⟨some (70, false), some 72, .mov (.t 7)⟩,
     ⟨some (70, false), some 73, .mov (.t 10)⟩,
     ⟨some (70, false), some 74, .len false (.t 73)⟩,
     ⟨some (70, false), some 75, .slc (.t 72) none (some (.t 74)) none 2⟩,
     ⟨some (70, false), some 76, .call 10 [(.t 71), (.t 75)]⟩,
     ⟨some (70, false), some 77, .not (.t 76)⟩,
     ⟨none, some 78, .pick (.t 70) (.c (.bool true)) (.t 77)⟩])
  (.cond (.t 78) (.seq (.region [⟨none, some 6, .asg (.c (.bool false))⟩])
   (.ret))
   (.skip)))
 (.seq (.seq (.region [⟨none, some 12, .asg (.c (.int .i64 0))⟩])
  (.block 0 (.loop (.seq (.seq (.region [⟨none, some 79, .mov (.t 12)⟩,
        ⟨none, some 80, .mov (.t 7)⟩,
        ⟨none, some 81, .len false (.t 80)⟩,
        ⟨none, some 82, .bin .lss (.t 79) (.t 81)⟩])
     (.cond (.t 82) (.skip)
      (.exit 0)))
    (.seq (.block 1 (.seq (.region [⟨none, some 13, .asg (.c (.bool false))⟩])
      (.seq (.seq (.region [⟨none, some 14, .asg (.c (.int .i64 0))⟩])
       (.block 2 (.loop (.seq (.seq (.region [⟨none, some 85, .mov (.t 14)⟩,
             ⟨none, some 86, .mov (.t 2)⟩,
             ⟨none, some 87, .len false (.t 86)⟩,
             ⟨none, some 88, .bin .lss (.t 85) (.t 87)⟩])
          (.cond (.t 88) (.skip)
           (.exit 2)))
         (.seq (.block 3 (.draw (.pure 0 (.pure 1 (.pure 2 (.pure 3 (.pure 4 (.pure 5 (.pure 6 (.pure 7 (.pure 8 (.pure 9 (.pure 10 (.pure 11 (.pure 12 (.pure 13 (.pure 14 (.pure 15 (.pure 16 (.pure 17 (.pure 18 (.pure 19 (.pure 20 (.pure 21 (.pure 22 (.alt 23 .nil .stop)))))))))))))))))))))))) [(23, 6), (23, 11), (23, 19)] [⟨none, some 91, .mov (.t 13)⟩,
             ⟨none, some 92, .mov (.t 91)⟩,
             ⟨some (92, false), some 93, .mov (.t 2)⟩,
             ⟨some (92, false), some 94, .mov (.t 14)⟩,
             ⟨some (92, false), some 95, .idx (.t 93) (.t 94) 3⟩,
             ⟨some (92, false), some 96, .fld (.t 95) 0⟩,
             ⟨some (92, false), some 97, .ld (.t 96) none⟩,
             ⟨some (92, false), some 98, .mov (.t 7)⟩,
             ⟨some (92, false), some 99, .mov (.t 12)⟩,
             ⟨some (92, false), some 100, .idx (.t 98) (.t 99) 2⟩,
             ⟨some (92, false), some 101, .fld (.t 100) 0⟩,
             ⟨some (92, false), some 102, .ld (.t 101) none⟩,
             ⟨some (92, false), some 103, .bin .add (.t 102) (.c (.int .i64 1))⟩,
             ⟨some (92, false), some 104, .bin .eql (.t 97) (.t 103)⟩,
             ⟨some (92, false), some 105, .mov (.t 104)⟩,
             ⟨some (105, true), some 106, .mov (.t 2)⟩,
             ⟨some (105, true), some 107, .mov (.t 14)⟩,
             ⟨some (105, true), some 108, .idx (.t 106) (.t 107) 3⟩,
             ⟨some (105, true), some 109, .fld (.t 108) 1⟩,
             ⟨some (105, true), some 110, .ld (.t 109) none⟩,
             ⟨some (105, true), some 111, .bin .eql (.t 110) (.c (.int .i64 0))⟩,
             ⟨some (92, false), some 112, .pick (.t 105) (.t 111) (.c (.bool false))⟩,
             ⟨none, some 113, .pick (.t 92) (.c (.bool true)) (.t 112)⟩,
             ⟨none, some 13, .asg (.t 113)⟩]))
         (.region [⟨none, some 89, .mov (.t 14)⟩,
           ⟨none, some 90, .bin .add (.t 89) (.c (.int .i64 1))⟩,
           ⟨none, some 14, .asg (.t 90)⟩]))))))
      (.seq (.seq (.region [⟨none, some 15, .asg (.c (.int .i64 0))⟩])
       (.block 4 (.loop (.seq (.seq (.region [⟨none, some 114, .mov (.t 15)⟩,
             ⟨none, some 115, .mov (.t 12)⟩,
             ⟨none, some 116, .bin .lss (.t 114) (.t 115)⟩])
          (.cond (.t 116) (.skip)
           (.exit 4)))
         (.seq (.block 5 (.draw (.pure 0 (.pure 1 (.pure 2 (.pure 3 (.pure 4 (.pure 5 (.pure 6 (.pure 7 (.pure 8 (.pure 9 (.pure 10 (.pure 11 (.pure 12 (.pure 13 (.alt 14 .nil .stop))))))))))))))) [(14, 6), (14, 11)] [⟨none, some 119, .mov (.t 13)⟩,
             ⟨none, some 120, .mov (.t 119)⟩,
             ⟨some (120, true), some 121, .mov (.t 7)⟩,
             ⟨some (120, true), some 122, .mov (.t 15)⟩,
             ⟨some (120, true), some 123, .idx (.t 121) (.t 122) 2⟩,
             ⟨some (120, true), some 124, .fld (.t 123) 0⟩,
             ⟨some (120, true), some 125, .ld (.t 124) none⟩,
             ⟨some (120, true), some 126, .mov (.t 7)⟩,
             ⟨some (120, true), some 127, .mov (.t 12)⟩,
             ⟨some (120, true), some 128, .idx (.t 126) (.t 127) 2⟩,
             ⟨some (120, true), some 129, .fld (.t 128) 0⟩,
             ⟨some (120, true), some 130, .ld (.t 129) none⟩,
             ⟨some (120, true), some 131, .bin .neq (.t 125) (.t 130)⟩,
             ⟨none, some 132, .pick (.t 120) (.t 131) (.c (.bool false))⟩,
             ⟨none, some 13, .asg (.t 132)⟩]))
         (.region [⟨none, some 117, .mov (.t 15)⟩,
           ⟨none, some 118, .bin .add (.t 117) (.c (.int .i64 1))⟩,
           ⟨none, some 15, .asg (.t 118)⟩]))))))
      (.seq (.draw (.pure 0 (.pure 1 (.pure 2 (.pure 3 (.pure 4 (.pure 5 (.pure 6 (.pure 7 (.pure 8 (.pure 9 (.alt 10 (.pure 11 (.pure 12 .nil)) .stop))))))))))) [(10, 3), (10, 5), (10, 9)] [⟨none, some 133, .mov (.t 13)⟩,
         ⟨none, some 134, .not (.t 133)⟩,
         ⟨none, some 135, .mov (.t 134)⟩,
         ⟨some (135, false), some 136, .ld (.t 3) (some 8)⟩,
         ⟨some (135, false), some 137, .idxA (.t 4) (.c (.int .i64 0)) 1 3⟩,
         ⟨some (135, false), some 138, .ld (.t 137) none⟩,
         ⟨some (135, false), some 139, .mov (.t 7)⟩,
         ⟨some (135, false), some 140, .mov (.t 12)⟩,
         ⟨some (135, false), some 141, .idx (.t 139) (.t 140) 2⟩,
         ⟨some (135, false), some 142, .ld (.t 141) (some 2)⟩,
         ⟨some (135, false), some 143, .call 12 [(.t 136), (.t 138), (.t 142)]⟩,
         ⟨some (135, false), some 144, .not (.t 143)⟩,
         ⟨none, some 145, .pick (.t 135) (.c (.bool true)) (.t 144)⟩])
      (.cond (.t 145) (.seq (.region [⟨none, some 6, .asg (.c (.bool false))⟩])
       (.ret))
       (.skip)))))))
    (.region [⟨none, some 83, .mov (.t 12)⟩,
      ⟨none, some 84, .bin .add (.t 83) (.c (.int .i64 1))⟩,
      ⟨none, some 12, .asg (.t 84)⟩]))))))
 (.seq (.region [⟨none, some 146, .call 11 []⟩,
    ⟨none, some 6, .asg (.t 146)⟩])
 (.ret)))))))))
abbrev law25_CollectStays.D0 : List Nat := [6, 12, 13, 14, 15, 79, 80, 81, 82, 83, 84, 85, 86, 87, 88, 89, 90, 91, 92, 93, 94, 95, 96, 97, 98, 99, 100, 101, 102, 103, 104, 105, 106, 107, 108, 109, 110, 111, 112, 113, 114, 115, 116, 117, 118, 119, 120, 121, 122, 123, 124, 125, 126, 127, 128, 129, 130, 131, 132, 133, 134, 135, 136, 137, 138, 139, 140, 141, 142, 143, 144, 145]
abbrev law25_CollectStays.D1 : List Nat := [13, 14, 85, 86, 87, 88, 89, 90, 91, 92, 93, 94, 95, 96, 97, 98, 99, 100, 101, 102, 103, 104, 105, 106, 107, 108, 109, 110, 111, 112, 113]
abbrev law25_CollectStays.D2 : List Nat := [13, 15, 114, 115, 116, 117, 118, 119, 120, 121, 122, 123, 124, 125, 126, 127, 128, 129, 130, 131, 132]
abbrev law25_CollectStays.K0 : List Nat := [6, 12, 13, 14, 15, 79, 80, 81, 82, 83, 84, 85, 86, 87, 88, 89, 90, 91, 92, 93, 94, 95, 96, 97, 98, 99, 100, 101, 102, 103, 104, 105, 106, 107, 108, 109, 110, 111, 112, 113, 114, 115, 116, 117, 118, 119, 120, 121, 122, 123, 124, 125, 126, 127, 128, 129, 130, 131, 132, 133, 134, 135, 136, 137, 138, 139, 140, 141, 142, 143, 144, 145]
abbrev law25_CollectStays.K1 : List Nat := [6, 13, 14, 15, 85, 86, 87, 88, 89, 90, 91, 92, 93, 94, 95, 96, 97, 98, 99, 100, 101, 102, 103, 104, 105, 106, 107, 108, 109, 110, 111, 112, 113, 114, 115, 116, 117, 118, 119, 120, 121, 122, 123, 124, 125, 126, 127, 128, 129, 130, 131, 132, 133, 134, 135, 136, 137, 138, 139, 140, 141, 142, 143, 144, 145]
abbrev law25_CollectStays.K2 : List Nat := [13, 14, 85, 86, 87, 88, 89, 90, 91, 92, 93, 94, 95, 96, 97, 98, 99, 100, 101, 102, 103, 104, 105, 106, 107, 108, 109, 110, 111, 112, 113]
abbrev law25_CollectStays.K3 : List Nat := [13, 91, 92, 93, 94, 95, 96, 97, 98, 99, 100, 101, 102, 103, 104, 105, 106, 107, 108, 109, 110, 111, 112, 113]
abbrev law25_CollectStays.K4 : List Nat := [13, 15, 114, 115, 116, 117, 118, 119, 120, 121, 122, 123, 124, 125, 126, 127, 128, 129, 130, 131, 132]
abbrev law25_CollectStays.K5 : List Nat := [13, 119, 120, 121, 122, 123, 124, 125, 126, 127, 128, 129, 130, 131, 132]
theorem law25_CollectStays.k : chkFn Go.Proofs.Try.prog 4 147 [.tmp 6] law25_CollectStays.c = true := by kernel_rfl

end Go.Proofs.Ytilhkgfhhkkolaa.C
