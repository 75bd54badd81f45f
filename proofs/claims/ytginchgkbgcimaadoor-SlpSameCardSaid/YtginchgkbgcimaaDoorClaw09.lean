import Derived.Test.YtginchgkbgcimaaDoorAdef
import Derived.Test.YtginchgkbgcimaaDoorProg
import Derived.KernelRfl
namespace Go.Proofs.YtginchgkbgcimaaDoor.C
open Go Go.RowKit Go.Proofs.YtginchgkbgcimaaDoor.AL

/-- conclave/conclavelaw09.SlpMays: function 5; parameters: api.Prog, api.Prog; results: bool -/
def law09_SlpMays.c : ACode :=
 .seq (.region [⟨none, some 2, .box (.t 0)⟩,
    ⟨none, some 3, .box (.t 1)⟩,
    ⟨none, some 4, .asg (.c (.bool false))⟩])
 (.seq (.draw (.pure 0 (.pure 2 (.alt 1 (.alt 3 (.pure 4 (.pure 5 (.pure 6 (.pure 7 (.pure 9 (.pure 10 (.alt 8 (.alt 11 (.pure 12 (.pure 13 (.pure 14 (.pure 15 (.pure 16 (.alt 17 (.pure 18 (.pure 19 (.alt 20 (.pure 21 (.alt 22 .nil .stop)) .stop))) .stop)))))) .stop) .stop))))))) .stop) .stop))) [(1, 0), (3, 0), (3, 2), (8, 0), (8, 2), (8, 6), (8, 7), (11, 0), (11, 2), (11, 6), (11, 7), (11, 9), (11, 10), (17, 0), (17, 2), (17, 6), (17, 7), (17, 9), (17, 10), (17, 15), (17, 16), (20, 0), (20, 2), (20, 6), (20, 7), (20, 9), (20, 10), (20, 15), (20, 16), (22, 0), (22, 2), (22, 6), (22, 7), (22, 9), (22, 10), (22, 15), (22, 16)] [⟨none, some 5, .ld (.t 2) (some 3)⟩,
    ⟨none, some 6, .call 16 [(.t 5)]⟩,
    ⟨none, some 7, .ld (.t 2) (some 3)⟩,
    ⟨none, some 8, .call 14 [(.t 7)]⟩,
    ⟨none, some 9, .eq .bool false (.t 6) (.t 8)⟩,
    ⟨none, some 10, .mov (.t 9)⟩,
    ⟨some (10, true), some 11, .ld (.t 2) (some 3)⟩,
    ⟨some (10, true), some 12, .ld (.t 3) (some 3)⟩,
    ⟨some (10, true), some 13, .call 17 [(.t 11), (.t 12)]⟩,
    ⟨some (10, true), some 14, .ld (.t 2) (some 3)⟩,
    ⟨some (10, true), some 15, .ld (.t 3) (some 3)⟩,
    ⟨some (10, true), some 16, .call 13 [(.t 14), (.t 15)]⟩,
    ⟨some (10, true), some 17, .eq .bool false (.t 13) (.t 16)⟩,
    ⟨none, some 18, .pick (.t 10) (.t 17) (.c (.bool false))⟩,
    ⟨none, some 19, .mov (.t 18)⟩,
    ⟨some (19, true), some 20, .ld (.t 2) (some 3)⟩,
    ⟨some (19, true), some 21, .ld (.t 2) (some 3)⟩,
    ⟨some (19, true), some 22, .call 17 [(.t 20), (.t 21)]⟩,
    ⟨none, some 23, .pick (.t 19) (.t 22) (.c (.bool false))⟩,
    ⟨none, some 24, .mov (.t 23)⟩,
    ⟨some (24, true), some 25, .call 15 []⟩,
    ⟨none, some 26, .pick (.t 24) (.t 25) (.c (.bool false))⟩,
    ⟨none, some 4, .asg (.t 26)⟩])
 (.ret))
theorem law09_SlpMays.k : chkFn Go.Proofs.Tryd.prog 5 27 [.tmp 4] law09_SlpMays.c = true := by kernel_rfl

/-- conclave/conclavelaw09.SlpAfters: function 6; parameters: api.Prog, api.Prog; results: bool -/
def law09_SlpAfters.c : ACode :=
 .seq (.region [⟨none, some 2, .box (.t 0)⟩,
    ⟨none, some 3, .box (.t 1)⟩,
    ⟨none, some 4, .asg (.c (.bool false))⟩])
 (.seq (.region [⟨none, some 10, .ld (.t 2) (some 3)⟩,
    ⟨none, some 11, .ld (.t 3) (some 3)⟩,
    ⟨none, some 12, .call 18 [(.t 10), (.t 11)]⟩,
    ⟨none, some 9, .mov (.t 12)⟩,
    ⟨none, some 13, .ext (.t 9) 0⟩,
    ⟨none, some 14, .ext (.t 9) 1⟩,
    ⟨none, some 5, .alloc [.int .i64 0, .lit (.slice none 0 0), .lit (.slice none 0 0)]⟩,
    ⟨none, none, .st (.t 5) (.t 13) 3⟩,
    ⟨none, some 6, .asg (.t 14)⟩])
 (.seq (.region [⟨none, some 16, .ld (.t 2) (some 3)⟩,
    ⟨none, some 17, .ld (.t 3) (some 3)⟩,
    ⟨none, some 18, .call 19 [(.t 16), (.t 17)]⟩,
    ⟨none, some 15, .mov (.t 18)⟩,
    ⟨none, some 19, .ext (.t 15) 0⟩,
    ⟨none, some 20, .ext (.t 15) 1⟩,
    ⟨none, some 7, .alloc [.int .i64 0, .lit (.slice none 0 0), .lit (.slice none 0 0)]⟩,
    ⟨none, none, .st (.t 7) (.t 19) 3⟩,
    ⟨none, some 8, .asg (.t 20)⟩])
 (.seq (.region [⟨none, some 21, .ld (.t 5) (some 3)⟩,
    ⟨none, some 22, .ld (.t 7) (some 3)⟩,
    ⟨none, some 23, .call 13 [(.t 21), (.t 22)]⟩,
    ⟨none, some 24, .mov (.t 23)⟩,
    ⟨some (24, true), some 25, .mov (.t 6)⟩,
    ⟨some (24, true), some 26, .mov (.t 8)⟩,
    ⟨some (24, true), some 27, .bin .eql (.t 25) (.t 26)⟩,
    ⟨none, some 28, .pick (.t 24) (.t 27) (.c (.bool false))⟩,
    ⟨none, some 29, .mov (.t 28)⟩,
    ⟨some (29, true), some 30, .call 15 []⟩,
    ⟨none, some 31, .pick (.t 29) (.t 30) (.c (.bool false))⟩,
    ⟨none, some 4, .asg (.t 31)⟩])
 (.ret))))
theorem law09_SlpAfters.k : chkFn Go.Proofs.Tryd.prog 6 32 [.tmp 4] law09_SlpAfters.c = true := by kernel_rfl

/-- conclave/conclavelaw09.SlpSame: function 7; parameters: api.Prog; results: bool -/
def law09_SlpSame.c : ACode :=
 .seq (.region [⟨none, some 1, .box (.t 0)⟩,
    ⟨none, some 2, .asg (.c (.bool false))⟩])
 (.seq (.seq (.region [⟨none, some 11, .ld (.t 1) (some 3)⟩,
     ⟨none, some 12, .call 14 [(.t 11)]⟩,
     ⟨none, some 13, .not (.t 12)⟩])
  (.cond (.t 13) (.seq (.region [⟨none, some 14, .call 15 []⟩,
      ⟨none, some 15, .mov (.t 14)⟩,
      ⟨some (15, true), some 16, .ld (.t 1) (some 3)⟩,
      ⟨some (15, true), some 17, .call 16 [(.t 16)]⟩,
      ⟨some (15, true), some 18, .not (.t 17)⟩,
      ⟨none, some 19, .pick (.t 15) (.t 18) (.c (.bool false))⟩,
      ⟨none, some 2, .asg (.t 19)⟩])
   (.ret))
   (.skip)))
 (.seq (.draw (.pure 0 (.pure 1 (.pure 2 (.pure 3 (.pure 4 (.pure 5 (.pure 6 (.alt 7 (.alt 8 (.alt 9 (.alt 10 .nil .stop) .stop) .stop) (.alt 8 (.alt 7 (.alt 9 (.alt 10 .nil .stop) .stop) .stop) .stop))))))))) [(9, 1), (10, 1), (10, 4)] [⟨none, some 20, .fld (.t 1) 0⟩,
    ⟨none, some 21, .ld (.t 20) none⟩,
    ⟨none, some 22, .build [.int .i64 0, .lit (.slice none 0 0), .lit (.slice none 0 0)] [(0, 1, (.t 21))]⟩,
    ⟨none, some 23, .fld (.t 1) 2⟩,
    ⟨none, some 24, .ld (.t 23) none⟩,
    ⟨none, some 25, .len false (.t 24)⟩,
    ⟨none, some 26, .build [.int .i64 0, .lit (.slice none 0 0), .lit (.slice none 0 0)] [(0, 1, (.t 25))]⟩,
    ⟨none, some 3, .alloc [.int .i64 0, .lit (.slice none 0 0), .lit (.slice none 0 0)]⟩,
    ⟨none, some 4, .alloc [.int .i64 0, .lit (.slice none 0 0), .lit (.slice none 0 0)]⟩,
    ⟨none, none, .st (.t 3) (.t 22) 3⟩,
    ⟨none, none, .st (.t 4) (.t 26) 3⟩])
 (.seq (.seq (.region [⟨none, some 5, .asg (.c (.int .i64 0))⟩])
  (.block 0 (.loop (.seq (.seq (.region [⟨none, some 27, .mov (.t 5)⟩,
        ⟨none, some 28, .fld (.t 1) 0⟩,
        ⟨none, some 29, .ld (.t 28) none⟩,
        ⟨none, some 30, .bin .lss (.t 27) (.t 29)⟩])
     (.cond (.t 30) (.skip)
      (.exit 0)))
    (.seq (.block 1 (.region [⟨none, some 33, .fld (.t 3) 2⟩,
        ⟨none, some 34, .ld (.t 33) none⟩,
        ⟨none, some 35, .mov (.t 5)⟩,
        ⟨none, some 36, .bslice 1 [.int .i64 0] [(0, 1, (.t 35))]⟩,
        ⟨none, some 37, .app (.t 34) (.t 36) 1 8⟩,
        ⟨none, some 38, .fld (.t 3) 2⟩,
        ⟨none, none, .st (.t 38) (.t 37) 1⟩]))
    (.region [⟨none, some 31, .mov (.t 5)⟩,
      ⟨none, some 32, .bin .add (.t 31) (.c (.int .i64 1))⟩,
      ⟨none, some 5, .asg (.t 32)⟩]))))))
 (.seq (.seq (.region [⟨none, some 6, .asg (.c (.int .i64 0))⟩])
  (.block 2 (.loop (.seq (.seq (.region [⟨none, some 39, .mov (.t 6)⟩,
        ⟨none, some 40, .fld (.t 1) 2⟩,
        ⟨none, some 41, .ld (.t 40) none⟩,
        ⟨none, some 42, .len false (.t 41)⟩,
        ⟨none, some 43, .bin .lss (.t 39) (.t 42)⟩])
     (.cond (.t 43) (.skip)
      (.exit 2)))
    (.seq (.block 3 (.region [⟨none, some 46, .fld (.t 4) 2⟩,
        ⟨none, some 47, .ld (.t 46) none⟩,
        ⟨none, some 48, .mov (.t 6)⟩,
        ⟨none, some 49, .bslice 1 [.int .i64 0] [(0, 1, (.t 48))]⟩,
        ⟨none, some 50, .app (.t 47) (.t 49) 1 8⟩,
        ⟨none, some 51, .fld (.t 4) 2⟩,
        ⟨none, none, .st (.t 51) (.t 50) 1⟩]))
    (.region [⟨none, some 44, .mov (.t 6)⟩,
      ⟨none, some 45, .bin .add (.t 44) (.c (.int .i64 1))⟩,
      ⟨none, some 6, .asg (.t 45)⟩]))))))
 (.seq (.region [⟨none, some 53, .ld (.t 1) (some 3)⟩,
    ⟨none, some 54, .ld (.t 3) (some 3)⟩,
    ⟨none, some 55, .call 18 [(.t 53), (.t 54)]⟩,
    ⟨none, some 52, .mov (.t 55)⟩,
    ⟨none, some 56, .ext (.t 52) 0⟩,
    ⟨none, some 57, .ext (.t 52) 1⟩,
    ⟨none, some 7, .alloc [.int .i64 0, .lit (.slice none 0 0), .lit (.slice none 0 0)]⟩,
    ⟨none, none, .st (.t 7) (.t 56) 3⟩,
    ⟨none, some 8, .asg (.t 57)⟩])
 (.seq (.region [⟨none, some 59, .ld (.t 4) (some 3)⟩,
    ⟨none, some 60, .ld (.t 1) (some 3)⟩,
    ⟨none, some 61, .call 18 [(.t 59), (.t 60)]⟩,
    ⟨none, some 58, .mov (.t 61)⟩,
    ⟨none, some 62, .ext (.t 58) 0⟩,
    ⟨none, some 63, .ext (.t 58) 1⟩,
    ⟨none, some 9, .alloc [.int .i64 0, .lit (.slice none 0 0), .lit (.slice none 0 0)]⟩,
    ⟨none, none, .st (.t 9) (.t 62) 3⟩,
    ⟨none, some 10, .asg (.t 63)⟩])
 (.seq (.region [⟨none, some 64, .call 15 []⟩,
    ⟨none, some 65, .mov (.t 64)⟩,
    ⟨some (65, true), some 66, .mov (.t 8)⟩,
    ⟨some (65, true), some 67, .bin .eql (.t 66) (.c (.int .i64 0))⟩,
    ⟨none, some 68, .pick (.t 65) (.t 67) (.c (.bool false))⟩,
    ⟨none, some 69, .mov (.t 68)⟩,
    ⟨some (69, true), some 70, .mov (.t 10)⟩,
    ⟨some (69, true), some 71, .bin .eql (.t 70) (.c (.int .i64 0))⟩,
    ⟨none, some 72, .pick (.t 69) (.t 71) (.c (.bool false))⟩,
    ⟨none, some 73, .mov (.t 72)⟩,
    ⟨some (73, true), some 74, .ld (.t 7) (some 3)⟩,
    ⟨some (73, true), some 75, .ld (.t 1) (some 3)⟩,
    ⟨some (73, true), some 76, .call 13 [(.t 74), (.t 75)]⟩,
    ⟨none, some 77, .pick (.t 73) (.t 76) (.c (.bool false))⟩,
    ⟨none, some 78, .mov (.t 77)⟩,
    ⟨some (78, true), some 79, .ld (.t 9) (some 3)⟩,
    ⟨some (78, true), some 80, .ld (.t 1) (some 3)⟩,
    ⟨some (78, true), some 81, .call 13 [(.t 79), (.t 80)]⟩,
    ⟨none, some 82, .pick (.t 78) (.t 81) (.c (.bool false))⟩,
    ⟨none, some 2, .asg (.t 82)⟩])
 (.ret))))))))
abbrev law09_SlpSame.D0 : List Nat := [5, 27, 28, 29, 30, 31, 32, 33, 34, 35, 36, 37, 38]
abbrev law09_SlpSame.D1 : List Nat := [6, 39, 40, 41, 42, 43, 44, 45, 46, 47, 48, 49, 50, 51]
abbrev law09_SlpSame.K0 : List Nat := [5, 27, 28, 29, 30, 31, 32, 33, 34, 35, 36, 37, 38]
abbrev law09_SlpSame.K1 : List Nat := [33, 34, 35, 36, 37, 38]
abbrev law09_SlpSame.K2 : List Nat := [6, 39, 40, 41, 42, 43, 44, 45, 46, 47, 48, 49, 50, 51]
abbrev law09_SlpSame.K3 : List Nat := [46, 47, 48, 49, 50, 51]
theorem law09_SlpSame.k : chkFn Go.Proofs.Tryd.prog 7 83 [.tmp 2] law09_SlpSame.c = true := by kernel_rfl

/-- conclave/conclavelaw09.SlpFresh: function 8; parameters: api.Prog, api.Prog; results: bool -/
def law09_SlpFresh.c : ACode :=
 .seq (.region [⟨none, some 2, .box (.t 0)⟩,
    ⟨none, some 3, .box (.t 1)⟩,
    ⟨none, some 4, .asg (.c (.bool false))⟩])
 (.seq (.draw (.pure 0 (.pure 2 (.alt 1 (.alt 3 (.alt 4 (.alt 5 (.alt 6 (.alt 7 .nil .stop) .stop) .stop) (.alt 5 (.alt 4 (.alt 6 (.alt 7 .nil .stop) .stop) .stop) .stop)) (.alt 4 (.alt 3 (.alt 5 (.alt 6 (.alt 7 .nil .stop) .stop) .stop) (.alt 5 (.alt 3 (.alt 6 (.alt 7 .nil .stop) .stop) .stop) .stop)) (.alt 5 (.alt 3 (.alt 4 (.alt 6 (.alt 7 .nil .stop) .stop) .stop) (.alt 4 (.alt 3 (.alt 6 (.alt 7 .nil .stop) .stop) .stop) .stop)) .stop))) (.alt 4 (.alt 1 (.alt 3 (.alt 5 (.alt 6 (.alt 7 .nil .stop) .stop) .stop) (.alt 5 (.alt 3 (.alt 6 (.alt 7 .nil .stop) .stop) .stop) .stop)) (.alt 5 (.alt 1 (.alt 3 (.alt 6 (.alt 7 .nil .stop) .stop) .stop) .stop) .stop)) (.alt 5 (.alt 1 (.alt 3 (.alt 4 (.alt 6 (.alt 7 .nil .stop) .stop) .stop) (.alt 4 (.alt 3 (.alt 6 (.alt 7 .nil .stop) .stop) .stop) .stop)) (.alt 4 (.alt 1 (.alt 3 (.alt 6 (.alt 7 .nil .stop) .stop) .stop) .stop) .stop)) .stop))))) [(1, 0), (3, 0), (3, 2), (6, 0), (6, 2), (7, 0), (7, 2)] [⟨none, some 15, .ld (.t 2) (some 3)⟩,
    ⟨none, some 16, .call 20 [(.t 15)]⟩,
    ⟨none, some 17, .ld (.t 3) (some 3)⟩,
    ⟨none, some 18, .call 20 [(.t 17)]⟩,
    ⟨none, some 5, .alloc [.int .i64 0, .lit (.slice none 0 0), .lit (.slice none 0 0)]⟩,
    ⟨none, some 6, .alloc [.int .i64 0, .lit (.slice none 0 0), .lit (.slice none 0 0)]⟩,
    ⟨none, none, .st (.t 5) (.t 16) 3⟩,
    ⟨none, none, .st (.t 6) (.t 18) 3⟩])
 (.seq (.region [⟨none, some 20, .ld (.t 5) (some 3)⟩,
    ⟨none, some 21, .ld (.t 6) (some 3)⟩,
    ⟨none, some 22, .call 18 [(.t 20), (.t 21)]⟩,
    ⟨none, some 19, .mov (.t 22)⟩,
    ⟨none, some 23, .ext (.t 19) 0⟩,
    ⟨none, some 24, .ext (.t 19) 1⟩,
    ⟨none, some 7, .alloc [.int .i64 0, .lit (.slice none 0 0), .lit (.slice none 0 0)]⟩,
    ⟨none, none, .st (.t 7) (.t 23) 3⟩,
    ⟨none, some 8, .asg (.t 24)⟩])
 (.seq (.region [⟨none, some 26, .ld (.t 5) (some 3)⟩,
    ⟨none, some 27, .ld (.t 6) (some 3)⟩,
    ⟨none, some 28, .call 18 [(.t 26), (.t 27)]⟩,
    ⟨none, some 25, .mov (.t 28)⟩,
    ⟨none, some 29, .ext (.t 25) 0⟩,
    ⟨none, some 30, .ext (.t 25) 1⟩,
    ⟨none, some 9, .alloc [.int .i64 0, .lit (.slice none 0 0), .lit (.slice none 0 0)]⟩,
    ⟨none, none, .st (.t 9) (.t 29) 3⟩,
    ⟨none, some 10, .asg (.t 30)⟩])
 (.seq (.seq (.region [⟨none, some 11, .asg (.c (.int .i64 0))⟩])
  (.block 0 (.loop (.seq (.seq (.region [⟨none, some 31, .mov (.t 11)⟩,
        ⟨none, some 32, .fld (.t 7) 1⟩,
        ⟨none, some 33, .ld (.t 32) none⟩,
        ⟨none, some 34, .len false (.t 33)⟩,
        ⟨none, some 35, .bin .lss (.t 31) (.t 34)⟩])
     (.cond (.t 35) (.skip)
      (.exit 0)))
    (.seq (.block 1 (.region [⟨none, some 38, .fld (.t 7) 1⟩,
        ⟨none, some 39, .ld (.t 38) none⟩,
        ⟨none, some 40, .mov (.t 11)⟩,
        ⟨none, some 41, .build [.int .u8 0, .int .i64 0, .int .i64 0, .int .u64 0] [(0, 1, (.c (.int .u8 9)))]⟩,
        ⟨none, some 42, .idx (.t 39) (.t 40) 4⟩,
        ⟨none, none, .st (.t 42) (.t 41) 4⟩]))
    (.region [⟨none, some 36, .mov (.t 11)⟩,
      ⟨none, some 37, .bin .add (.t 36) (.c (.int .i64 1))⟩,
      ⟨none, some 11, .asg (.t 37)⟩]))))))
 (.seq (.seq (.region [⟨none, some 12, .asg (.c (.int .i64 0))⟩])
  (.block 2 (.loop (.seq (.seq (.region [⟨none, some 43, .mov (.t 12)⟩,
        ⟨none, some 44, .fld (.t 7) 2⟩,
        ⟨none, some 45, .ld (.t 44) none⟩,
        ⟨none, some 46, .len false (.t 45)⟩,
        ⟨none, some 47, .bin .lss (.t 43) (.t 46)⟩])
     (.cond (.t 47) (.skip)
      (.exit 2)))
    (.seq (.block 3 (.region [⟨none, some 50, .fld (.t 7) 2⟩,
        ⟨none, some 51, .ld (.t 50) none⟩,
        ⟨none, some 52, .mov (.t 12)⟩,
        ⟨none, some 53, .idx (.t 51) (.t 52) 1⟩,
        ⟨none, none, .st (.t 53) (.c (.int .i64 (-1))) 1⟩]))
    (.region [⟨none, some 48, .mov (.t 12)⟩,
      ⟨none, some 49, .bin .add (.t 48) (.c (.int .i64 1))⟩,
      ⟨none, some 12, .asg (.t 49)⟩]))))))
 (.seq (.region [⟨none, some 55, .ld (.t 2) (some 3)⟩,
    ⟨none, some 56, .ld (.t 3) (some 3)⟩,
    ⟨none, some 57, .call 19 [(.t 55), (.t 56)]⟩,
    ⟨none, some 54, .mov (.t 57)⟩,
    ⟨none, some 58, .ext (.t 54) 0⟩,
    ⟨none, some 59, .ext (.t 54) 1⟩,
    ⟨none, some 13, .alloc [.int .i64 0, .lit (.slice none 0 0), .lit (.slice none 0 0)]⟩,
    ⟨none, none, .st (.t 13) (.t 58) 3⟩,
    ⟨none, some 14, .asg (.t 59)⟩])
 (.seq (.region [⟨none, some 60, .call 15 []⟩,
    ⟨none, some 61, .mov (.t 60)⟩,
    ⟨some (61, true), some 62, .ld (.t 5) (some 3)⟩,
    ⟨some (61, true), some 63, .ld (.t 2) (some 3)⟩,
    ⟨some (61, true), some 64, .call 13 [(.t 62), (.t 63)]⟩,
    ⟨none, some 65, .pick (.t 61) (.t 64) (.c (.bool false))⟩,
    ⟨none, some 66, .mov (.t 65)⟩,
    ⟨some (66, true), some 67, .ld (.t 6) (some 3)⟩,
    ⟨some (66, true), some 68, .ld (.t 3) (some 3)⟩,
    ⟨some (66, true), some 69, .call 13 [(.t 67), (.t 68)]⟩,
    ⟨none, some 70, .pick (.t 66) (.t 69) (.c (.bool false))⟩,
    ⟨none, some 71, .mov (.t 70)⟩,
    ⟨some (71, true), some 72, .ld (.t 9) (some 3)⟩,
    ⟨some (71, true), some 73, .ld (.t 13) (some 3)⟩,
    ⟨some (71, true), some 74, .call 13 [(.t 72), (.t 73)]⟩,
    ⟨none, some 75, .pick (.t 71) (.t 74) (.c (.bool false))⟩,
    ⟨none, some 76, .mov (.t 75)⟩,
    ⟨some (76, true), some 77, .mov (.t 10)⟩,
    ⟨some (76, true), some 78, .mov (.t 14)⟩,
    ⟨some (76, true), some 79, .bin .eql (.t 77) (.t 78)⟩,
    ⟨none, some 80, .pick (.t 76) (.t 79) (.c (.bool false))⟩,
    ⟨none, some 4, .asg (.t 80)⟩])
 (.ret))))))))
abbrev law09_SlpFresh.D0 : List Nat := [11, 31, 32, 33, 34, 35, 36, 37, 38, 39, 40, 41, 42]
abbrev law09_SlpFresh.D1 : List Nat := [12, 43, 44, 45, 46, 47, 48, 49, 50, 51, 52, 53]
abbrev law09_SlpFresh.K0 : List Nat := [11, 31, 32, 33, 34, 35, 36, 37, 38, 39, 40, 41, 42]
abbrev law09_SlpFresh.K1 : List Nat := [38, 39, 40, 41, 42]
abbrev law09_SlpFresh.K2 : List Nat := [12, 43, 44, 45, 46, 47, 48, 49, 50, 51, 52, 53]
abbrev law09_SlpFresh.K3 : List Nat := [50, 51, 52, 53]
theorem law09_SlpFresh.k : chkFn Go.Proofs.Tryd.prog 8 81 [.tmp 4] law09_SlpFresh.c = true := by kernel_rfl

/-- conclave/conclavelaw09.square: function 38; parameters: ; results: api.Prog -/
def law09_square.c : ACode :=
 .seq (.region [⟨none, some 0, .alloc [.int .i64 0, .lit (.slice none 0 0), .lit (.slice none 0 0)]⟩])
 (.seq (.region [⟨none, some 1, .build [.int .u8 0, .int .i64 0, .int .i64 0, .int .u64 0] [(0, 1, (.c (.int .u8 3)))]⟩,
    ⟨none, some 2, .bslice 1 [.int .u8 0, .int .i64 0, .int .i64 0, .int .u64 0] [(0, 4, (.t 1))]⟩,
    ⟨none, some 3, .bslice 1 [.int .i64 0] [(0, 1, (.c (.int .i64 1)))]⟩,
    ⟨none, some 4, .build [.int .i64 0, .lit (.slice none 0 0), .lit (.slice none 0 0)] [(0, 1, (.c (.int .i64 1))), (1, 1, (.t 2)), (2, 1, (.t 3))]⟩,
    ⟨none, none, .st (.t 0) (.t 4) 3⟩])
 (.ret))
theorem law09_square.k : chkFn Go.Proofs.Tryd.prog 38 5 [.cell 0 (some 3)] law09_square.c = true := by kernel_rfl

/-- conclave/conclavelaw09.anchored: function 15; parameters: ; results: bool -/
def law09_anchored.c : ACode :=
 .seq (.region [⟨none, some 0, .asg (.c (.bool false))⟩])
 (.seq (.region [⟨none, some 7, .call 38 []⟩,
    ⟨none, some 8, .call 9 [(.t 7)]⟩,
    ⟨none, some 6, .mov (.t 8)⟩,
    ⟨none, some 9, .ext (.t 6) 0⟩,
    ⟨none, some 10, .ext (.t 6) 1⟩,
    ⟨none, some 1, .asg (.t 9)⟩,
    ⟨none, some 2, .asg (.t 10)⟩])
 (.seq (.region [⟨none, some 12, .call 11 [(.c (.str ⟨#[105, 110, 112, 117, 116, 115, 32, 48, 49, 10]⟩))]⟩,
    ⟨none, some 11, .mov (.t 12)⟩,
    ⟨none, some 13, .ext (.t 11) 0⟩,
    ⟨none, some 14, .ext (.t 11) 1⟩,
    ⟨none, some 15, .ext (.t 11) 2⟩,
    ⟨none, some 3, .alloc [.int .i64 0, .lit (.slice none 0 0), .lit (.slice none 0 0)]⟩,
    ⟨none, none, .st (.t 3) (.t 13) 3⟩,
    ⟨none, some 4, .asg (.t 14)⟩,
    ⟨none, some 5, .asg (.t 15)⟩])
 (.seq (.region [⟨none, some 16, .mov (.t 2)⟩,
    ⟨none, some 17, .bin .eql (.t 16) (.c (.int .i64 0))⟩,
    ⟨none, some 18, .mov (.t 17)⟩,
    ⟨some (18, true), some 19, .mov (.t 5)⟩,
    ⟨some (18, true), some 20, .bin .eql (.t 19) (.c (.int .i64 90))⟩,
    ⟨none, some 21, .pick (.t 18) (.t 20) (.c (.bool false))⟩,
    ⟨none, some 22, .mov (.t 21)⟩,
    ⟨some (22, true), some 23, .mov (.t 4)⟩,
    ⟨some (22, true), some 24, .bin .eql (.t 23) (.c (.int .i64 1))⟩,
    ⟨none, some 25, .pick (.t 22) (.t 24) (.c (.bool false))⟩,
    ⟨none, some 26, .mov (.t 25)⟩,
    ⟨some (26, true), some 27, .mov (.t 1)⟩,
    ⟨some (26, true), some 28, .bin .eql (.t 27) (.c (.str ⟨#[105, 110, 112, 117, 116, 115, 32, 49, 10, 116, 48, 32, 61, 32, 120, 48, 32, 42, 32, 120, 48, 10, 111, 117, 116, 115, 32, 116, 48, 10]⟩))⟩,
    ⟨none, some 29, .pick (.t 26) (.t 28) (.c (.bool false))⟩,
    ⟨none, some 30, .mov (.t 29)⟩,
    ⟨none, some 31, .pick (.t 30) (.c (.bool true)) (.c (.bool false))⟩,
    ⟨none, some 32, .mov (.t 31)⟩,
    ⟨none, some 33, .pick (.t 32) (.c (.bool true)) (.c (.bool false))⟩,
    ⟨none, some 34, .mov (.t 33)⟩,
    ⟨none, some 35, .pick (.t 34) (.c (.bool true)) (.c (.bool false))⟩,
    ⟨none, some 36, .mov (.t 35)⟩,
    ⟨none, some 37, .pick (.t 36) (.c (.bool true)) (.c (.bool false))⟩,
    ⟨none, some 0, .asg (.t 37)⟩])
 (.ret))))
theorem law09_anchored.k : chkFn Go.Proofs.Tryd.prog 15 38 [.tmp 0] law09_anchored.c = true := by kernel_rfl

/-- conclave/slp.Text: function 9; parameters: api.Prog; results: string, api.Errno -/
def slp_Text.c : ACode :=
 .seq (.region [⟨none, some 1, .box (.t 0)⟩,
    ⟨none, some 2, .asg (.c (.str ⟨#[]⟩))⟩,
    ⟨none, some 3, .asg (.c (.int .i64 0))⟩])
 (.seq (.seq (.region [⟨none, some 12, .ld (.t 1) (some 3)⟩,
     ⟨none, some 13, .call 16 [(.t 12)]⟩,
     ⟨none, some 14, .not (.t 13)⟩])
  (.cond (.t 14) (.seq (.region [⟨none, some 2, .asg (.c (.str ⟨#[]⟩))⟩,
      ⟨none, some 3, .asg (.c (.int .i64 2))⟩])
   (.ret))
   (.skip)))
 (.seq (.region [⟨none, some 4, .allocT 51 [.lit (.pointer none), .lit (.slice none 0 0)]⟩])
 (.seq (.region [⟨none, some 15, .mkfn (.func 21) [] [(.t 4)]⟩,
    ⟨none, some 5, .asg (.t 15)⟩])
 (.seq (.region [⟨none, some 16, .mov (.t 5)⟩,
    ⟨none, some 17, .fld (.t 1) 0⟩,
    ⟨none, some 18, .ld (.t 17) none⟩,
    ⟨none, some 19, .call 24 [(.t 18)]⟩,
    ⟨none, some 20, .bslice 2 [.str ByteArray.empty] [(0, 1, (.c (.str ⟨#[105, 110, 112, 117, 116, 115]⟩))), (1, 1, (.t 19))]⟩,
    ⟨none, some 21, .callv (.t 16) [(.t 20)]⟩])
 (.seq (.seq (.region [⟨none, some 22, .fld (.t 1) 1⟩,
     ⟨none, some 23, .ld (.t 22) none⟩,
     ⟨none, some 24, .len false (.t 23)⟩,
     ⟨none, some 25, .mov (.c (.int .i64 0))⟩])
  (.block 0 (.loop (.seq (.region [⟨none, some 26, .bin .lss (.t 25) (.t 24)⟩])
    (.seq (.cond (.t 26) (.skip)
      (.exit 0))
    (.seq (.block 1 (.seq (.region [⟨none, some 27, .mov (.t 25)⟩,
         ⟨none, some 28, .idx (.t 23) (.t 25) 4⟩,
         ⟨none, some 29, .ld (.t 28) (some 4)⟩,
         ⟨none, some 7, .alloc [.int .u8 0, .int .i64 0, .int .i64 0, .int .u64 0]⟩,
         ⟨none, some 6, .asg (.t 27)⟩,
         ⟨none, none, .st (.t 7) (.t 29) 4⟩])
      (.seq (.region [⟨none, some 30, .fld (.t 1) 0⟩,
         ⟨none, some 31, .ld (.t 30) none⟩,
         ⟨none, some 32, .fld (.t 1) 0⟩,
         ⟨none, some 33, .ld (.t 32) none⟩,
         ⟨none, some 34, .mov (.t 6)⟩,
         ⟨none, some 35, .bin .add (.t 33) (.t 34)⟩,
         ⟨none, some 36, .call 25 [(.t 31), (.t 35)]⟩,
         ⟨none, some 8, .asg (.t 36)⟩])
      (.seq (.seq (.region [⟨none, some 37, .fld (.t 7) 0⟩,
          ⟨none, some 38, .ld (.t 37) none⟩,
          ⟨none, some 39, .bin .eql (.t 38) (.c (.int .u8 4))⟩])
       (.cond (.t 39) (.seq (.region [⟨none, some 40, .mov (.t 5)⟩,
           ⟨none, some 41, .mov (.t 8)⟩,
           ⟨none, some 42, .fld (.t 7) 3⟩,
           ⟨none, some 43, .ld (.t 42) none⟩,
           ⟨none, some 44, .call 26 [(.t 43), (.c (.int .i64 10))]⟩,
           ⟨none, some 45, .bslice 3 [.str ByteArray.empty] [(0, 1, (.t 41)), (1, 1, (.c (.str ⟨#[61]⟩))), (2, 1, (.t 44))]⟩,
           ⟨none, some 46, .callv (.t 40) [(.t 45)]⟩])
        (.exit 1))
        (.skip)))
      (.draw (.pure 0 (.pure 1 (.pure 2 (.pure 3 (.pure 4 (.pure 5 (.pure 7 (.pure 8 (.pure 10 (.pure 11 (.pure 12 (.pure 13 (.alt 6 (.alt 9 (.alt 14 (.alt 15 (.alt 16 .nil .stop) .stop) .stop) .stop) .stop))))))))))))) [(6, 3), (6, 5), (9, 3), (9, 5), (9, 8), (14, 3), (14, 5), (14, 8), (14, 11), (14, 13), (15, 3), (15, 5), (15, 8), (15, 11), (15, 13), (16, 3), (16, 5), (16, 8), (16, 11), (16, 13)] [⟨none, some 47, .mov (.t 5)⟩,
        ⟨none, some 48, .mov (.t 8)⟩,
        ⟨none, some 49, .fld (.t 1) 0⟩,
        ⟨none, some 50, .ld (.t 49) none⟩,
        ⟨none, some 51, .fld (.t 7) 1⟩,
        ⟨none, some 52, .ld (.t 51) none⟩,
        ⟨none, some 53, .call 25 [(.t 50), (.t 52)]⟩,
        ⟨none, some 54, .fld (.t 7) 0⟩,
        ⟨none, some 55, .ld (.t 54) none⟩,
        ⟨none, some 56, .call 27 [(.t 55)]⟩,
        ⟨none, some 57, .fld (.t 1) 0⟩,
        ⟨none, some 58, .ld (.t 57) none⟩,
        ⟨none, some 59, .fld (.t 7) 2⟩,
        ⟨none, some 60, .ld (.t 59) none⟩,
        ⟨none, some 61, .call 25 [(.t 58), (.t 60)]⟩,
        ⟨none, some 62, .bslice 5 [.str ByteArray.empty] [(0, 1, (.t 48)), (1, 1, (.c (.str ⟨#[61]⟩))), (2, 1, (.t 53)), (3, 1, (.t 56)), (4, 1, (.t 61))]⟩,
        ⟨none, some 63, .callv (.t 47) [(.t 62)]⟩])))))
    (.region [⟨none, some 64, .bin .add (.t 25) (.c (.int .i64 1))⟩,
      ⟨none, some 25, .mov (.t 64)⟩])))))))
 (.seq (.region [⟨none, some 65, .bslice 1 [.str ByteArray.empty] [(0, 1, (.c (.str ⟨#[111, 117, 116, 115]⟩)))]⟩,
    ⟨none, some 9, .asg (.t 65)⟩])
 (.seq (.seq (.region [⟨none, some 66, .fld (.t 1) 2⟩,
     ⟨none, some 67, .ld (.t 66) none⟩,
     ⟨none, some 68, .len false (.t 67)⟩,
     ⟨none, some 69, .mov (.c (.int .i64 0))⟩])
  (.block 2 (.loop (.seq (.region [⟨none, some 70, .bin .lss (.t 69) (.t 68)⟩])
    (.seq (.cond (.t 70) (.skip)
      (.exit 2))
    (.seq (.block 3 (.seq (.region [⟨none, some 71, .idx (.t 67) (.t 69) 1⟩,
         ⟨none, some 72, .ld (.t 71) none⟩,
         ⟨none, some 11, .asg (.t 72)⟩])
      (.region [⟨none, some 73, .mov (.t 9)⟩,
        ⟨none, some 74, .fld (.t 1) 0⟩,
        ⟨none, some 75, .ld (.t 74) none⟩,
        ⟨none, some 76, .mov (.t 11)⟩,
        ⟨none, some 77, .call 25 [(.t 75), (.t 76)]⟩,
        ⟨none, some 78, .bslice 1 [.str ByteArray.empty] [(0, 1, (.t 77))]⟩,
        ⟨none, some 79, .app (.t 73) (.t 78) 1 16⟩,
        ⟨none, some 9, .asg (.t 79)⟩])))
    (.region [⟨none, some 80, .bin .add (.t 69) (.c (.int .i64 1))⟩,
      ⟨none, some 69, .mov (.t 80)⟩])))))))
 (.seq (.region [⟨none, some 81, .mov (.t 5)⟩,
    ⟨none, some 82, .mov (.t 9)⟩,
    ⟨none, some 83, .callv (.t 81) [(.t 82)]⟩])
 (.seq (.region [⟨none, some 84, .call 28 [(.t 4)]⟩,
    ⟨none, some 2, .asg (.t 84)⟩,
    ⟨none, some 3, .asg (.c (.int .i64 0))⟩])
 (.ret))))))))))
abbrev slp_Text.D0 : List Nat := [6, 7, 8, 25, 26, 27, 28, 29, 30, 31, 32, 33, 34, 35, 36, 37, 38, 39, 40, 41, 42, 43, 44, 45, 46, 47, 48, 49, 50, 51, 52, 53, 54, 55, 56, 57, 58, 59, 60, 61, 62, 63, 64]
abbrev slp_Text.D1 : List Nat := [9, 11, 69, 70, 71, 72, 73, 74, 75, 76, 77, 78, 79, 80]
abbrev slp_Text.K0 : List Nat := [6, 7, 8, 25, 26, 27, 28, 29, 30, 31, 32, 33, 34, 35, 36, 37, 38, 39, 40, 41, 42, 43, 44, 45, 46, 47, 48, 49, 50, 51, 52, 53, 54, 55, 56, 57, 58, 59, 60, 61, 62, 63, 64]
abbrev slp_Text.K1 : List Nat := [6, 7, 8, 27, 28, 29, 30, 31, 32, 33, 34, 35, 36, 37, 38, 39, 40, 41, 42, 43, 44, 45, 46, 47, 48, 49, 50, 51, 52, 53, 54, 55, 56, 57, 58, 59, 60, 61, 62, 63]
abbrev slp_Text.K2 : List Nat := [9, 11, 69, 70, 71, 72, 73, 74, 75, 76, 77, 78, 79, 80]
abbrev slp_Text.K3 : List Nat := [9, 11, 71, 72, 73, 74, 75, 76, 77, 78, 79]
theorem slp_Text.k : chkFn Go.Proofs.Tryd.prog 9 85 [.tmp 2, .tmp 3] slp_Text.c = true := by kernel_rfl

/-- conclave/slp.Text$1: function 21; parameters: []string; results:  -/
def slp_Text_1.c : ACode :=
 .region [⟨none, some 3, .mov (.t 0)⟩,
   ⟨none, some 4, .call 23 [(.t 3), (.c (.str ⟨#[32]⟩))]⟩,
   ⟨none, some 5, .bin .add (.t 4) (.c (.str ⟨#[10]⟩))⟩,
   ⟨none, some 6, .call 22 [(.t 1), (.t 5)]⟩]
theorem slp_Text_1.k : chkFn Go.Proofs.Tryd.prog 21 7 [] slp_Text_1.c = true := by kernel_rfl

/-- conclave/slp.value: function 25; parameters: int, int; results: string -/
def slp_value.c : ACode :=
 .seq (.region [⟨none, some 4, .asg (.c (.str ⟨#[]⟩))⟩])
 (.seq (.seq (.region [⟨none, some 5, .mov (.t 1)⟩,
     ⟨none, some 6, .mov (.t 0)⟩,
     ⟨none, some 7, .bin .lss (.t 5) (.t 6)⟩])
  (.cond (.t 7) (.seq (.region [⟨none, some 8, .mov (.t 1)⟩,
      ⟨none, some 9, .call 24 [(.t 8)]⟩,
      ⟨none, some 10, .bin .add (.c (.str ⟨#[120]⟩)) (.t 9)⟩,
      ⟨none, some 4, .asg (.t 10)⟩])
   (.ret))
   (.skip)))
 (.seq (.region [⟨none, some 11, .mov (.t 1)⟩,
    ⟨none, some 12, .mov (.t 0)⟩,
    ⟨none, some 13, .bin .sub (.t 11) (.t 12)⟩,
    ⟨none, some 14, .call 24 [(.t 13)]⟩,
    ⟨none, some 15, .bin .add (.c (.str ⟨#[116]⟩)) (.t 14)⟩,
    ⟨none, some 4, .asg (.t 15)⟩])
 (.ret)))
theorem slp_value.k : chkFn Go.Proofs.Tryd.prog 25 16 [.tmp 4] slp_value.c = true := by kernel_rfl

/-- conclave/slp.Read: function 11; parameters: string; results: api.Prog, int, api.Errno -/
def slp_Read.c : ACode :=
 .seq (.region [⟨none, some 2, .alloc [.int .i64 0, .lit (.slice none 0 0), .lit (.slice none 0 0)]⟩,
    ⟨none, some 3, .asg (.c (.int .i64 0))⟩,
    ⟨none, some 4, .asg (.c (.int .i64 0))⟩])
 (.seq (.region [⟨none, some 6, .build [.int .i64 0, .lit (.slice none 0 0), .lit (.slice none 0 0), .int .i64 0, .bool false] []⟩,
    ⟨none, some 7, .box (.t 6)⟩,
    ⟨none, some 5, .asg (.t 7)⟩])
 (.seq (.seq (.region [⟨none, some 8, .mov (.t 5)⟩,
     ⟨none, some 9, .mov (.t 0)⟩,
     ⟨none, some 10, .call 31 [(.t 8), (.t 9)]⟩,
     ⟨none, some 11, .not (.t 10)⟩])
  (.cond (.t 11) (.seq (.draw (.pure 0 (.pure 1 (.pure 2 (.pure 3 (.pure 4 (.alt 5 (.alt 6 (.alt 7 .nil .stop) .stop) .stop)))))) [(6, 4), (7, 4)] [⟨none, some 12, .build [.int .i64 0, .lit (.slice none 0 0), .lit (.slice none 0 0)] []⟩,
      ⟨none, some 13, .mov (.t 5)⟩,
      ⟨none, some 14, .nilchk (.t 13)⟩,
      ⟨none, some 15, .fld (.t 14) 3⟩,
      ⟨none, some 16, .ld (.t 15) none⟩,
      ⟨none, none, .st (.t 2) (.t 12) 3⟩,
      ⟨none, some 3, .asg (.t 16)⟩,
      ⟨none, some 4, .asg (.c (.int .i64 90))⟩])
   (.ret))
   (.skip)))
 (.seq (.region [⟨none, some 17, .mov (.t 5)⟩,
    ⟨none, some 18, .nilchk (.t 17)⟩,
    ⟨none, some 19, .fld (.t 18) 0⟩,
    ⟨none, some 20, .ld (.t 19) (some 3)⟩,
    ⟨none, none, .st (.t 2) (.t 20) 3⟩,
    ⟨none, some 3, .asg (.c (.int .i64 0))⟩,
    ⟨none, some 4, .asg (.c (.int .i64 0))⟩])
 (.ret))))
theorem slp_Read.k : chkFn Go.Proofs.Tryd.prog 11 21 [.cell 2 (some 3), .tmp 3, .tmp 4] slp_Read.c = true := by kernel_rfl

/-- conclave/slp.lines: function 51; parameters: string; results: iter.Seq2[string,bool] -/
def slp_lines.c : ACode :=
 .seq (.region [⟨none, some 1, .box (.t 0)⟩,
    ⟨none, some 2, .asg (.c (.lit .nilFunc))⟩])
 (.seq (.region [⟨none, some 3, .mkfn (.func 63) [] [(.t 1)]⟩,
    ⟨none, some 2, .asg (.t 3)⟩])
 (.ret))
theorem slp_lines.k : chkFn Go.Proofs.Tryd.prog 51 4 [.tmp 2] slp_lines.c = true := by kernel_rfl

/-- conclave/slp.lines$1: function 63; parameters: func(string, bool) bool; results:  -/
def slp_lines_1.c : ACode :=
 .block 0 (.loop (.block 1 (.seq (.region [⟨none, some 7, .ld (.t 1) none⟩,
       ⟨none, some 8, .call 64 [(.t 7), (.c (.str ⟨#[10]⟩))]⟩,
       ⟨none, some 6, .mov (.t 8)⟩,
       ⟨none, some 9, .ext (.t 6) 0⟩,
       ⟨none, some 10, .ext (.t 6) 1⟩,
       ⟨none, some 11, .ext (.t 6) 2⟩,
       ⟨none, some 3, .asg (.t 9)⟩,
       ⟨none, some 4, .asg (.t 10)⟩,
       ⟨none, some 5, .asg (.t 11)⟩])
    (.seq (.seq (.region [⟨none, some 12, .mov (.t 0)⟩,
        ⟨none, some 13, .mov (.t 3)⟩,
        ⟨none, some 14, .mov (.t 5)⟩,
        ⟨none, some 15, .callv (.t 12) [(.t 13), (.t 14)]⟩,
        ⟨none, some 16, .not (.t 15)⟩])
     (.cond (.t 16) (.ret)
      (.skip)))
    (.region [⟨none, some 17, .mov (.t 4)⟩,
      ⟨none, none, .st (.t 1) (.t 17) 1⟩])))))
abbrev slp_lines_1.D0 : List Nat := [3, 4, 5, 6, 7, 8, 9, 10, 11, 12, 13, 14, 15, 16, 17]
abbrev slp_lines_1.K0 : List Nat := [3, 4, 5, 6, 7, 8, 9, 10, 11, 12, 13, 14, 15, 16, 17]
abbrev slp_lines_1.K1 : List Nat := [3, 4, 5, 6, 7, 8, 9, 10, 11, 12, 13, 14, 15, 16, 17]
theorem slp_lines_1.k : chkFn Go.Proofs.Tryd.prog 63 18 [] slp_lines_1.c = true := by kernel_rfl

/-- conclave/slp.need: function 52; parameters: bool; results:  -/
def slp_need.c : ACode :=
 .seq (.region [⟨none, some 2, .mov (.t 0)⟩,
    ⟨none, some 3, .not (.t 2)⟩])
 (.cond (.t 3) (.region [⟨none, some 4, .build [] []⟩,
    ⟨none, some 5, .mkif 88 (.t 4)⟩,
    ⟨none, none, .pnc (.t 5)⟩])
  (.skip))
theorem slp_need.k : chkFn Go.Proofs.Tryd.prog 52 6 [] slp_need.c = true := by kernel_rfl

/-- conclave/slp.taker: function 65; parameters: string; results: func() string, func() bool -/
def slp_taker.c : ACode :=
 .seq (.region [⟨none, some 2, .asg (.c (.lit .nilFunc))⟩,
    ⟨none, some 3, .asg (.c (.lit .nilFunc))⟩])
 (.seq (.region [⟨none, some 5, .mov (.t 0)⟩,
    ⟨none, some 6, .call 75 [(.t 5), (.c (.str ⟨#[32]⟩))]⟩,
    ⟨none, some 4, .alloc [.lit (.slice none 0 0)]⟩,
    ⟨none, none, .st (.t 4) (.t 6) 1⟩])
 (.seq (.region [⟨none, some 7, .mkfn (.func 76) [] [(.t 4)]⟩,
    ⟨none, some 2, .asg (.t 7)⟩])
 (.seq (.region [⟨none, some 8, .mov (.t 2)⟩,
    ⟨none, some 9, .mkfn (.func 77) [] [(.t 4)]⟩,
    ⟨none, some 2, .asg (.t 8)⟩,
    ⟨none, some 3, .asg (.t 9)⟩])
 (.ret))))
theorem slp_taker.k : chkFn Go.Proofs.Tryd.prog 65 10 [.tmp 2, .tmp 3] slp_taker.c = true := by kernel_rfl

/-- conclave/slp.taker$1: function 76; parameters: ; results: string -/
def slp_taker_1.c : ACode :=
 .seq (.region [⟨none, some 1, .asg (.c (.str ⟨#[]⟩))⟩])
 (.seq (.region [⟨none, some 3, .ld (.t 0) none⟩,
    ⟨none, some 4, .len false (.t 3)⟩,
    ⟨none, some 5, .bin .gtr (.t 4) (.c (.int .i64 0))⟩,
    ⟨none, some 6, .call 52 [(.t 5)]⟩])
 (.seq (.region [⟨none, some 7, .ld (.t 0) none⟩,
    ⟨none, some 8, .idx (.t 7) (.c (.int .i64 0)) 1⟩,
    ⟨none, some 9, .ld (.t 8) none⟩,
    ⟨none, some 2, .asg (.t 9)⟩])
 (.seq (.region [⟨none, some 10, .ld (.t 0) none⟩,
    ⟨none, some 11, .slc (.t 10) (some (.c (.int .i64 1))) none none 1⟩,
    ⟨none, none, .st (.t 0) (.t 11) 1⟩])
 (.seq (.region [⟨none, some 12, .mov (.t 2)⟩,
    ⟨none, some 1, .asg (.t 12)⟩])
 (.ret)))))
theorem slp_taker_1.k : chkFn Go.Proofs.Tryd.prog 76 13 [.tmp 1] slp_taker_1.c = true := by kernel_rfl

/-- conclave/slp.taker$2: function 77; parameters: ; results: bool -/
def slp_taker_2.c : ACode :=
 .seq (.region [⟨none, some 1, .asg (.c (.bool false))⟩])
 (.seq (.region [⟨none, some 2, .ld (.t 0) none⟩,
    ⟨none, some 3, .len false (.t 2)⟩,
    ⟨none, some 4, .bin .gtr (.t 3) (.c (.int .i64 0))⟩,
    ⟨none, some 1, .asg (.t 4)⟩])
 (.ret))
theorem slp_taker_2.k : chkFn Go.Proofs.Tryd.prog 77 5 [.tmp 1] slp_taker_2.c = true := by kernel_rfl

/-- conclave/slp.number: function 66; parameters: string, uint64; results: uint64 -/
def slp_number.c : ACode :=
 .seq (.region [⟨none, some 4, .asg (.c (.int .u64 0))⟩])
 (.seq (.region [⟨none, some 8, .mov (.t 0)⟩,
    ⟨none, some 9, .call 78 [(.t 8), (.c (.int .i64 10)), (.c (.int .i64 64))]⟩,
    ⟨none, some 7, .mov (.t 9)⟩,
    ⟨none, some 10, .ext (.t 7) 0⟩,
    ⟨none, some 11, .ext (.t 7) 1⟩,
    ⟨none, some 5, .asg (.t 10)⟩,
    ⟨none, some 6, .asg (.t 11)⟩])
 (.seq (.region [⟨none, some 12, .mov (.t 6)⟩,
    ⟨none, some 13, .eq .iface false (.t 12) (.c (.lit .nilIface))⟩,
    ⟨none, some 14, .mov (.t 13)⟩,
    ⟨some (14, true), some 15, .mov (.t 5)⟩,
    ⟨some (14, true), some 16, .mov (.t 1)⟩,
    ⟨some (14, true), some 17, .bin .leq (.t 15) (.t 16)⟩,
    ⟨none, some 18, .pick (.t 14) (.t 17) (.c (.bool false))⟩,
    ⟨none, some 19, .mov (.t 18)⟩,
    ⟨some (19, true), some 20, .mov (.t 5)⟩,
    ⟨some (19, true), some 21, .call 26 [(.t 20), (.c (.int .i64 10))]⟩,
    ⟨some (19, true), some 22, .mov (.t 0)⟩,
    ⟨some (19, true), some 23, .bin .eql (.t 21) (.t 22)⟩,
    ⟨none, some 24, .pick (.t 19) (.t 23) (.c (.bool false))⟩,
    ⟨none, some 25, .call 52 [(.t 24)]⟩])
 (.seq (.region [⟨none, some 26, .mov (.t 5)⟩,
    ⟨none, some 4, .asg (.t 26)⟩])
 (.ret))))
theorem slp_number.k : chkFn Go.Proofs.Tryd.prog 66 27 [.tmp 4] slp_number.c = true := by kernel_rfl

end Go.Proofs.YtginchgkbgcimaaDoor.C
