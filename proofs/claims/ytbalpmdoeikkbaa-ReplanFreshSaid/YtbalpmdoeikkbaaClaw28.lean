import Derived.Test.YtbalpmdoeikkbaaAwalk
import Derived.Test.YtbalpmdoeikkbaaProg
import Derived.KernelRfl
namespace Go.Proofs.Ytbalpmdoeikkbaa.C
open Go Go.RowKit Go.Proofs.Ytbalpmdoeikkbaa.AL

/-- conclave/conclavelaw28.eleven: function 28; parameters: ; results: api.Plan -/
def law28_eleven.c : ACode :=
 .seq (.region [⟨none, some 0, .alloc [.int .u8 0, .int .i64 0, .int .i64 0, .int .i64 0, .int .i64 0, .int .i64 0, .int .i64 0, .int .i64 0]⟩])
 (.seq (.region [⟨none, some 1, .build [.int .u8 0, .int .i64 0, .int .i64 0, .int .i64 0, .int .i64 0, .int .i64 0, .int .i64 0, .int .i64 0] [(0, 1, (.c (.int .u8 1))), (1, 1, (.c (.int .i64 11))), (2, 1, (.c (.int .i64 3))), (3, 1, (.c (.int .i64 1))), (5, 1, (.c (.int .i64 2))), (6, 1, (.c (.int .i64 2))), (7, 1, (.c (.int .i64 1)))]⟩,
    ⟨none, none, .st (.t 0) (.t 1) 8⟩])
 (.ret))
theorem law28_eleven.k : chkFn Go.Proofs.Try.prog 28 2 [.cell 0 (some 8)] law28_eleven.c = true := by kernel_rfl

/-- conclave/conclavelaw28.anchored: function 10; parameters: ; results: bool -/
def law28_anchored.c : ACode :=
 .seq (.region [⟨none, some 0, .asg (.c (.bool false))⟩])
 (.seq (.region [⟨none, some 7, .call 28 []⟩,
    ⟨none, some 8, .call 12 [(.t 7)]⟩,
    ⟨none, some 6, .mov (.t 8)⟩,
    ⟨none, some 9, .ext (.t 6) 0⟩,
    ⟨none, some 10, .ext (.t 6) 1⟩,
    ⟨none, some 1, .asg (.t 9)⟩,
    ⟨none, some 2, .asg (.t 10)⟩])
 (.seq (.region [⟨none, some 12, .call 28 []⟩,
    ⟨none, some 13, .mov (.t 1)⟩,
    ⟨none, some 14, .bslice 3 [.int .i64 0] [(0, 1, (.c (.int .i64 4))), (1, 1, (.c (.int .i64 4))), (2, 1, (.c (.int .i64 9)))]⟩,
    ⟨none, some 15, .call 8 [(.t 12), (.t 13), (.t 14)]⟩,
    ⟨none, some 11, .mov (.t 15)⟩,
    ⟨none, some 16, .ext (.t 11) 0⟩,
    ⟨none, some 17, .ext (.t 11) 1⟩,
    ⟨none, some 18, .ext (.t 11) 2⟩,
    ⟨none, some 3, .alloc [.int .u8 0, .int .i64 0, .int .i64 0, .int .i64 0, .int .i64 0, .int .i64 0, .int .i64 0, .int .i64 0]⟩,
    ⟨none, none, .st (.t 3) (.t 16) 8⟩,
    ⟨none, some 4, .asg (.t 17)⟩,
    ⟨none, some 5, .asg (.t 18)⟩])
 (.seq (.region [⟨none, some 19, .mov (.t 2)⟩,
    ⟨none, some 20, .bin .eql (.t 19) (.c (.int .i64 0))⟩,
    ⟨none, some 21, .mov (.t 20)⟩,
    ⟨some (21, true), some 22, .mov (.t 5)⟩,
    ⟨some (21, true), some 23, .bin .eql (.t 22) (.c (.int .i64 0))⟩,
    ⟨none, some 24, .pick (.t 21) (.t 23) (.c (.bool false))⟩,
    ⟨none, some 25, .mov (.t 24)⟩,
    ⟨some (25, true), some 26, .fld (.t 3) 1⟩,
    ⟨some (25, true), some 27, .ld (.t 26) none⟩,
    ⟨some (25, true), some 28, .bin .eql (.t 27) (.c (.int .i64 9))⟩,
    ⟨none, some 29, .pick (.t 25) (.t 28) (.c (.bool false))⟩,
    ⟨none, some 30, .mov (.t 29)⟩,
    ⟨some (30, true), some 31, .fld (.t 3) 5⟩,
    ⟨some (30, true), some 32, .ld (.t 31) none⟩,
    ⟨some (30, true), some 33, .bin .eql (.t 32) (.c (.int .i64 0))⟩,
    ⟨none, some 34, .pick (.t 30) (.t 33) (.c (.bool false))⟩,
    ⟨none, some 35, .mov (.t 34)⟩,
    ⟨some (35, true), some 36, .mov (.t 4)⟩,
    ⟨some (35, true), some 37, .bslice 9 [.int .i64 0] [(0, 1, (.c (.int .i64 0))), (1, 1, (.c (.int .i64 1))), (2, 1, (.c (.int .i64 2))), (3, 1, (.c (.int .i64 3))), (4, 1, (.c (.int .i64 5))), (5, 1, (.c (.int .i64 6))), (6, 1, (.c (.int .i64 7))), (7, 1, (.c (.int .i64 8))), (8, 1, (.c (.int .i64 10)))]⟩,
    ⟨some (35, true), some 38, .call 11 [(.t 36), (.t 37)]⟩,
    ⟨none, some 39, .pick (.t 35) (.t 38) (.c (.bool false))⟩,
    ⟨none, some 0, .asg (.t 39)⟩])
 (.ret))))
theorem law28_anchored.k : chkFn Go.Proofs.Try.prog 10 40 [.tmp 0] law28_anchored.c = true := by kernel_rfl

/-- conclave/conclavelaw28.ReplanExcludes: function 4; parameters: api.Plan, []int, []int; results: bool -/
def law28_ReplanExcludes.c : ACode :=
 .seq (.region [⟨none, some 3, .box (.t 0)⟩,
    ⟨none, some 6, .asg (.c (.bool false))⟩])
 (.seq (.region [⟨none, some 23, .ld (.t 3) (some 8)⟩,
    ⟨none, some 24, .call 12 [(.t 23)]⟩,
    ⟨none, some 22, .mov (.t 24)⟩,
    ⟨none, some 25, .ext (.t 22) 0⟩,
    ⟨none, some 26, .ext (.t 22) 1⟩,
    ⟨none, some 7, .asg (.t 25)⟩,
    ⟨none, some 8, .asg (.t 26)⟩])
 (.seq (.region [⟨none, some 28, .ld (.t 3) (some 8)⟩,
    ⟨none, some 29, .call 13 [(.t 28)]⟩,
    ⟨none, some 27, .mov (.t 29)⟩,
    ⟨none, some 30, .ext (.t 27) 0⟩,
    ⟨none, some 31, .ext (.t 27) 1⟩,
    ⟨none, some 9, .asg (.t 30)⟩,
    ⟨none, some 10, .asg (.t 31)⟩])
 (.seq (.region [⟨none, some 33, .ld (.t 3) (some 8)⟩,
    ⟨none, some 34, .mov (.t 1)⟩,
    ⟨none, some 35, .mov (.t 2)⟩,
    ⟨none, some 36, .call 8 [(.t 33), (.t 34), (.t 35)]⟩,
    ⟨none, some 32, .mov (.t 36)⟩,
    ⟨none, some 37, .ext (.t 32) 0⟩,
    ⟨none, some 38, .ext (.t 32) 1⟩,
    ⟨none, some 39, .ext (.t 32) 2⟩,
    ⟨none, some 11, .alloc [.int .u8 0, .int .i64 0, .int .i64 0, .int .i64 0, .int .i64 0, .int .i64 0, .int .i64 0, .int .i64 0]⟩,
    ⟨none, none, .st (.t 11) (.t 37) 8⟩,
    ⟨none, some 12, .asg (.t 38)⟩,
    ⟨none, some 13, .asg (.t 39)⟩])
 (.seq (.region [⟨none, some 41, .ld (.t 3) (some 8)⟩,
    ⟨none, some 42, .mov (.t 1)⟩,
    ⟨none, some 43, .mov (.t 2)⟩,
    ⟨none, some 44, .call 9 [(.t 41), (.t 42), (.t 43)]⟩,
    ⟨none, some 40, .mov (.t 44)⟩,
    ⟨none, some 45, .ext (.t 40) 0⟩,
    ⟨none, some 46, .ext (.t 40) 1⟩,
    ⟨none, some 47, .ext (.t 40) 2⟩,
    ⟨none, some 14, .alloc [.int .u8 0, .int .i64 0, .int .i64 0, .int .i64 0, .int .i64 0, .int .i64 0, .int .i64 0, .int .i64 0]⟩,
    ⟨none, none, .st (.t 14) (.t 45) 8⟩,
    ⟨none, some 15, .asg (.t 46)⟩,
    ⟨none, some 16, .asg (.t 47)⟩])
 (.seq (.region [⟨none, some 17, .asg (.c (.int .i64 0))⟩])
 (.seq (.seq (.region [⟨none, some 48, .mov (.t 2)⟩,
     ⟨none, some 49, .len false (.t 48)⟩,
     ⟨none, some 50, .bin .gtr (.t 49) (.c (.int .i64 0))⟩])
  (.cond (.t 50) (.region [⟨none, some 51, .mov (.t 2)⟩,
     ⟨none, some 52, .idx (.t 51) (.c (.int .i64 0)) 1⟩,
     ⟨none, some 53, .ld (.t 52) none⟩,
     ⟨none, some 17, .asg (.t 53)⟩])
   (.skip)))
 (.seq (.region [⟨none, some 55, .mov (.t 1)⟩,
    ⟨none, some 56, .mov (.t 17)⟩,
    ⟨none, some 57, .call 14 [(.t 55), (.t 56)]⟩,
    ⟨none, some 54, .mov (.t 57)⟩,
    ⟨none, some 58, .ext (.t 54) 0⟩,
    ⟨none, some 59, .ext (.t 54) 1⟩,
    ⟨none, some 18, .asg (.t 58)⟩,
    ⟨none, some 19, .asg (.t 59)⟩])
 (.seq (.region [⟨none, some 61, .mov (.t 1)⟩,
    ⟨none, some 62, .mov (.t 17)⟩,
    ⟨none, some 63, .call 15 [(.t 61), (.t 62)]⟩,
    ⟨none, some 60, .mov (.t 63)⟩,
    ⟨none, some 64, .ext (.t 60) 0⟩,
    ⟨none, some 65, .ext (.t 60) 1⟩,
    ⟨none, some 20, .asg (.t 64)⟩,
    ⟨none, some 21, .asg (.t 65)⟩])
 (.seq (.region [⟨none, some 66, .mov (.t 7)⟩,
    ⟨none, some 67, .mov (.t 9)⟩,
    ⟨none, some 68, .call 11 [(.t 66), (.t 67)]⟩,
    ⟨none, some 69, .mov (.t 68)⟩,
    ⟨some (69, true), some 70, .mov (.t 8)⟩,
    ⟨some (69, true), some 71, .mov (.t 10)⟩,
    ⟨some (69, true), some 72, .bin .eql (.t 70) (.t 71)⟩,
    ⟨none, some 73, .pick (.t 69) (.t 72) (.c (.bool false))⟩,
    ⟨none, some 74, .mov (.t 73)⟩,
    ⟨some (74, true), some 75, .ld (.t 11) (some 8)⟩,
    ⟨some (74, true), some 76, .ld (.t 14) (some 8)⟩,
    ⟨some (74, true), some 77, .eq (.flat [1, 1, 1, 1, 1, 1, 1, 1]) false (.t 75) (.t 76)⟩,
    ⟨none, some 78, .pick (.t 74) (.t 77) (.c (.bool false))⟩,
    ⟨none, some 79, .mov (.t 78)⟩,
    ⟨some (79, true), some 80, .mov (.t 12)⟩,
    ⟨some (79, true), some 81, .mov (.t 15)⟩,
    ⟨some (79, true), some 82, .call 11 [(.t 80), (.t 81)]⟩,
    ⟨none, some 83, .pick (.t 79) (.t 82) (.c (.bool false))⟩,
    ⟨none, some 84, .mov (.t 83)⟩,
    ⟨some (84, true), some 85, .mov (.t 13)⟩,
    ⟨some (84, true), some 86, .mov (.t 16)⟩,
    ⟨some (84, true), some 87, .bin .eql (.t 85) (.t 86)⟩,
    ⟨none, some 88, .pick (.t 84) (.t 87) (.c (.bool false))⟩,
    ⟨none, some 89, .mov (.t 88)⟩,
    ⟨some (89, true), some 90, .mov (.t 18)⟩,
    ⟨some (89, true), some 91, .mov (.t 20)⟩,
    ⟨some (89, true), some 92, .bin .eql (.t 90) (.t 91)⟩,
    ⟨none, some 93, .pick (.t 89) (.t 92) (.c (.bool false))⟩,
    ⟨none, some 94, .mov (.t 93)⟩,
    ⟨some (94, true), some 95, .mov (.t 19)⟩,
    ⟨some (94, true), some 96, .mov (.t 21)⟩,
    ⟨some (94, true), some 97, .eq .bool false (.t 95) (.t 96)⟩,
    ⟨none, some 98, .pick (.t 94) (.t 97) (.c (.bool false))⟩,
    ⟨none, some 99, .mov (.t 98)⟩,
    ⟨some (99, true), some 100, .call 10 []⟩,
    ⟨none, some 101, .pick (.t 99) (.t 100) (.c (.bool false))⟩,
    ⟨none, some 6, .asg (.t 101)⟩])
 (.ret))))))))))
theorem law28_ReplanExcludes.k : chkFn Go.Proofs.Try.prog 4 102 [.tmp 6] law28_ReplanExcludes.c = true := by kernel_rfl

/-- conclave/conclavelaw28.ReplanChains: function 6; parameters: api.Plan, [][]int; results: bool -/
def law28_ReplanChains.c : ACode :=
 .seq (.region [⟨none, some 2, .box (.t 0)⟩,
    ⟨none, some 4, .asg (.c (.bool false))⟩])
 (.seq (.region [⟨none, some 12, .ld (.t 2) (some 8)⟩,
    ⟨none, some 13, .mov (.t 1)⟩,
    ⟨none, some 14, .call 17 [(.t 12), (.t 13)]⟩,
    ⟨none, some 11, .mov (.t 14)⟩,
    ⟨none, some 15, .ext (.t 11) 0⟩,
    ⟨none, some 16, .ext (.t 11) 1⟩,
    ⟨none, some 17, .ext (.t 11) 2⟩,
    ⟨none, some 5, .alloc [.int .u8 0, .int .i64 0, .int .i64 0, .int .i64 0, .int .i64 0, .int .i64 0, .int .i64 0, .int .i64 0]⟩,
    ⟨none, none, .st (.t 5) (.t 15) 8⟩,
    ⟨none, some 6, .asg (.t 16)⟩,
    ⟨none, some 7, .asg (.t 17)⟩])
 (.seq (.region [⟨none, some 19, .ld (.t 2) (some 8)⟩,
    ⟨none, some 20, .mov (.t 1)⟩,
    ⟨none, some 21, .call 18 [(.t 19), (.t 20)]⟩,
    ⟨none, some 18, .mov (.t 21)⟩,
    ⟨none, some 22, .ext (.t 18) 0⟩,
    ⟨none, some 23, .ext (.t 18) 1⟩,
    ⟨none, some 24, .ext (.t 18) 2⟩,
    ⟨none, some 8, .alloc [.int .u8 0, .int .i64 0, .int .i64 0, .int .i64 0, .int .i64 0, .int .i64 0, .int .i64 0, .int .i64 0]⟩,
    ⟨none, none, .st (.t 8) (.t 22) 8⟩,
    ⟨none, some 9, .asg (.t 23)⟩,
    ⟨none, some 10, .asg (.t 24)⟩])
 (.seq (.region [⟨none, some 25, .ld (.t 5) (some 8)⟩,
    ⟨none, some 26, .ld (.t 8) (some 8)⟩,
    ⟨none, some 27, .eq (.flat [1, 1, 1, 1, 1, 1, 1, 1]) false (.t 25) (.t 26)⟩,
    ⟨none, some 28, .mov (.t 27)⟩,
    ⟨some (28, true), some 29, .mov (.t 6)⟩,
    ⟨some (28, true), some 30, .mov (.t 9)⟩,
    ⟨some (28, true), some 31, .call 11 [(.t 29), (.t 30)]⟩,
    ⟨none, some 32, .pick (.t 28) (.t 31) (.c (.bool false))⟩,
    ⟨none, some 33, .mov (.t 32)⟩,
    ⟨some (33, true), some 34, .mov (.t 7)⟩,
    ⟨some (33, true), some 35, .mov (.t 10)⟩,
    ⟨some (33, true), some 36, .bin .eql (.t 34) (.t 35)⟩,
    ⟨none, some 37, .pick (.t 33) (.t 36) (.c (.bool false))⟩,
    ⟨none, some 38, .mov (.t 37)⟩,
    ⟨some (38, true), some 39, .call 10 []⟩,
    ⟨none, some 40, .pick (.t 38) (.t 39) (.c (.bool false))⟩,
    ⟨none, some 4, .asg (.t 40)⟩])
 (.ret))))
theorem law28_ReplanChains.k : chkFn Go.Proofs.Try.prog 6 41 [.tmp 4] law28_ReplanChains.c = true := by kernel_rfl

/-- conclave/conclavelaw28.ReplanStays: function 5; parameters: api.Plan, []int; results: bool -/
def law28_ReplanStays.c : ACode :=
 .seq (.region [⟨none, some 2, .box (.t 0)⟩,
    ⟨none, some 4, .asg (.c (.bool false))⟩])
 (.seq (.seq (.region [⟨none, some 17, .ld (.t 2) (some 8)⟩,
     ⟨none, some 18, .call 16 [(.t 17)]⟩,
     ⟨none, some 19, .bin .neq (.t 18) (.c (.int .i64 0))⟩])
  (.cond (.t 19) (.seq (.region [⟨none, some 20, .call 10 []⟩,
      ⟨none, some 4, .asg (.t 20)⟩])
   (.ret))
   (.skip)))
 (.seq (.region [⟨none, some 5, .asg (.c (.lit (.slice none 0 0)))⟩])
 (.seq (.seq (.region [⟨none, some 6, .asg (.c (.int .i64 0))⟩])
  (.block 0 (.loop (.seq (.seq (.region [⟨none, some 21, .mov (.t 6)⟩,
        ⟨none, some 22, .mov (.t 1)⟩,
        ⟨none, some 23, .len false (.t 22)⟩,
        ⟨none, some 24, .bin .lss (.t 21) (.t 23)⟩,
        ⟨none, some 25, .mov (.t 24)⟩,
        ⟨some (25, true), some 26, .mov (.t 5)⟩,
        ⟨some (25, true), some 27, .len false (.t 26)⟩,
        ⟨some (25, true), some 28, .fld (.t 2) 5⟩,
        ⟨some (25, true), some 29, .ld (.t 28) none⟩,
        ⟨some (25, true), some 30, .bin .lss (.t 27) (.t 29)⟩,
        ⟨none, some 31, .pick (.t 25) (.t 30) (.c (.bool false))⟩])
     (.cond (.t 31) (.skip)
      (.exit 0)))
    (.seq (.block 1 (.seq (.draw [0, 1, 2, 3, 4, 5, 6, 7, 8, 9, 10, 11, 12, 13] [] [⟨none, some 34, .mov (.t 1)⟩,
         ⟨none, some 35, .mov (.t 6)⟩,
         ⟨none, some 36, .idx (.t 34) (.t 35) 1⟩,
         ⟨none, some 37, .ld (.t 36) none⟩,
         ⟨none, some 38, .bin .geq (.t 37) (.c (.int .i64 0))⟩,
         ⟨none, some 39, .mov (.t 38)⟩,
         ⟨some (39, true), some 40, .mov (.t 1)⟩,
         ⟨some (39, true), some 41, .mov (.t 6)⟩,
         ⟨some (39, true), some 42, .idx (.t 40) (.t 41) 1⟩,
         ⟨some (39, true), some 43, .ld (.t 42) none⟩,
         ⟨some (39, true), some 44, .fld (.t 2) 1⟩,
         ⟨some (39, true), some 45, .ld (.t 44) none⟩,
         ⟨some (39, true), some 46, .bin .lss (.t 43) (.t 45)⟩,
         ⟨none, some 47, .pick (.t 39) (.t 46) (.c (.bool false))⟩])
      (.cond (.t 47) (.region [⟨none, some 48, .mov (.t 5)⟩,
         ⟨none, some 49, .mov (.t 1)⟩,
         ⟨none, some 50, .mov (.t 6)⟩,
         ⟨none, some 51, .idx (.t 49) (.t 50) 1⟩,
         ⟨none, some 52, .ld (.t 51) none⟩,
         ⟨none, some 53, .bslice 1 [.int .i64 0] [(0, 1, (.t 52))]⟩,
         ⟨none, some 54, .app (.t 48) (.t 53) 1 8⟩,
         ⟨none, some 5, .asg (.t 54)⟩])
       (.skip))))
    (.region [⟨none, some 32, .mov (.t 6)⟩,
      ⟨none, some 33, .bin .add (.t 32) (.c (.int .i64 1))⟩,
      ⟨none, some 6, .asg (.t 33)⟩]))))))
 (.seq (.region [⟨none, some 56, .ld (.t 2) (some 8)⟩,
    ⟨none, some 57, .call 12 [(.t 56)]⟩,
    ⟨none, some 55, .mov (.t 57)⟩,
    ⟨none, some 58, .ext (.t 55) 0⟩,
    ⟨none, some 59, .ext (.t 55) 1⟩,
    ⟨none, some 7, .asg (.t 58)⟩,
    ⟨none, some 8, .asg (.t 59)⟩])
 (.seq (.region [⟨none, some 61, .ld (.t 2) (some 8)⟩,
    ⟨none, some 62, .mov (.t 7)⟩,
    ⟨none, some 63, .mov (.t 5)⟩,
    ⟨none, some 64, .call 8 [(.t 61), (.t 62), (.t 63)]⟩,
    ⟨none, some 60, .mov (.t 64)⟩,
    ⟨none, some 65, .ext (.t 60) 0⟩,
    ⟨none, some 66, .ext (.t 60) 1⟩,
    ⟨none, some 67, .ext (.t 60) 2⟩,
    ⟨none, some 9, .alloc [.int .u8 0, .int .i64 0, .int .i64 0, .int .i64 0, .int .i64 0, .int .i64 0, .int .i64 0, .int .i64 0]⟩,
    ⟨none, none, .st (.t 9) (.t 65) 8⟩,
    ⟨none, some 10, .asg (.t 66)⟩,
    ⟨none, some 11, .asg (.t 67)⟩])
 (.seq (.seq (.region [⟨none, some 68, .mov (.t 8)⟩,
     ⟨none, some 69, .bin .neq (.t 68) (.c (.int .i64 0))⟩,
     ⟨none, some 70, .mov (.t 69)⟩,
     ⟨some (70, false), some 71, .mov (.t 11)⟩,
     ⟨some (70, false), some 72, .bin .neq (.t 71) (.c (.int .i64 0))⟩,
     ⟨none, some 73, .pick (.t 70) (.c (.bool true)) (.t 72)⟩,
     ⟨none, some 74, .mov (.t 73)⟩,
     ⟨some (74, false), some 75, .ld (.t 9) (some 8)⟩,
     ⟨some (74, false), some 76, .call 16 [(.t 75)]⟩,
     ⟨some (74, false), some 77, .bin .neq (.t 76) (.c (.int .i64 0))⟩,
     ⟨none, some 78, .pick (.t 74) (.c (.bool true)) (.t 77)⟩,
     ⟨none, some 79, .mov (.t 78)⟩,
     ⟨some (79, false), some 80, .mov (.t 10)⟩,
     ⟨some (79, false), some 81, .len false (.t 80)⟩,
     ⟨some (79, false), some 82, .fld (.t 9) 1⟩,
     ⟨some (79, false), some 83, .ld (.t 82) none⟩,
     ⟨some (79, false), some 84, .bin .neq (.t 81) (.t 83)⟩,
     ⟨none, some 85, .pick (.t 79) (.c (.bool true)) (.t 84)⟩])
  (.cond (.t 85) (.seq (.region [⟨none, some 4, .asg (.c (.bool false))⟩])
   (.ret))
   (.skip)))
 (.seq (.seq (.region [⟨none, some 12, .asg (.c (.int .i64 0))⟩])
  (.block 2 (.loop (.seq (.seq (.region [⟨none, some 86, .mov (.t 12)⟩,
        ⟨none, some 87, .fld (.t 2) 1⟩,
        ⟨none, some 88, .ld (.t 87) none⟩,
        ⟨none, some 89, .bin .lss (.t 86) (.t 88)⟩])
     (.cond (.t 89) (.skip)
      (.exit 2)))
    (.seq (.block 3 (.seq (.region [⟨none, some 13, .asg (.c (.bool false))⟩])
      (.seq (.seq (.region [⟨none, some 14, .asg (.c (.int .i64 0))⟩])
       (.block 4 (.loop (.seq (.seq (.region [⟨none, some 92, .mov (.t 14)⟩,
             ⟨none, some 93, .mov (.t 5)⟩,
             ⟨none, some 94, .len false (.t 93)⟩,
             ⟨none, some 95, .bin .lss (.t 92) (.t 94)⟩])
          (.cond (.t 95) (.skip)
           (.exit 4)))
         (.seq (.block 5 (.region [⟨none, some 98, .mov (.t 13)⟩,
             ⟨none, some 99, .mov (.t 98)⟩,
             ⟨some (99, false), some 100, .mov (.t 5)⟩,
             ⟨some (99, false), some 101, .mov (.t 14)⟩,
             ⟨some (99, false), some 102, .idx (.t 100) (.t 101) 1⟩,
             ⟨some (99, false), some 103, .ld (.t 102) none⟩,
             ⟨some (99, false), some 104, .mov (.t 12)⟩,
             ⟨some (99, false), some 105, .bin .eql (.t 103) (.t 104)⟩,
             ⟨none, some 106, .pick (.t 99) (.c (.bool true)) (.t 105)⟩,
             ⟨none, some 13, .asg (.t 106)⟩]))
         (.region [⟨none, some 96, .mov (.t 14)⟩,
           ⟨none, some 97, .bin .add (.t 96) (.c (.int .i64 1))⟩,
           ⟨none, some 14, .asg (.t 97)⟩]))))))
      (.seq (.region [⟨none, some 108, .mov (.t 10)⟩,
         ⟨none, some 109, .mov (.t 12)⟩,
         ⟨none, some 110, .call 14 [(.t 108), (.t 109)]⟩,
         ⟨none, some 107, .mov (.t 110)⟩,
         ⟨none, some 111, .ext (.t 107) 0⟩,
         ⟨none, some 112, .ext (.t 107) 1⟩,
         ⟨none, some 15, .asg (.t 111)⟩,
         ⟨none, some 16, .asg (.t 112)⟩])
      (.seq (.region [⟨none, some 113, .mov (.t 16)⟩,
         ⟨none, some 114, .mov (.t 13)⟩,
         ⟨none, some 115, .eq .bool false (.t 113) (.t 114)⟩,
         ⟨none, some 116, .mov (.t 115)⟩,
         ⟨some (116, false), some 117, .mov (.t 16)⟩,
         ⟨some (116, false), some 118, .mov (.t 117)⟩,
         ⟨some (118, true), some 119, .mov (.t 10)⟩,
         ⟨some (118, true), some 120, .mov (.t 15)⟩,
         ⟨some (118, true), some 121, .idx (.t 119) (.t 120) 1⟩,
         ⟨some (118, true), some 122, .ld (.t 121) none⟩,
         ⟨some (118, true), some 123, .mov (.t 12)⟩,
         ⟨some (118, true), some 124, .bin .neq (.t 122) (.t 123)⟩,
         ⟨some (116, false), some 125, .pick (.t 118) (.t 124) (.c (.bool false))⟩,
         ⟨none, some 126, .pick (.t 116) (.c (.bool true)) (.t 125)⟩])
      (.cond (.t 126) (.seq (.region [⟨none, some 4, .asg (.c (.bool false))⟩])
       (.ret))
       (.skip)))))))
    (.region [⟨none, some 90, .mov (.t 12)⟩,
      ⟨none, some 91, .bin .add (.t 90) (.c (.int .i64 1))⟩,
      ⟨none, some 12, .asg (.t 91)⟩]))))))
 (.seq (.region [⟨none, some 127, .call 10 []⟩,
    ⟨none, some 4, .asg (.t 127)⟩])
 (.ret)))))))))
abbrev law28_ReplanStays.D0 : List Nat := [5, 6, 21, 22, 23, 24, 25, 26, 27, 28, 29, 30, 31, 32, 33, 34, 35, 36, 37, 38, 39, 40, 41, 42, 43, 44, 45, 46, 47, 48, 49, 50, 51, 52, 53, 54]
abbrev law28_ReplanStays.D1 : List Nat := [4, 12, 13, 14, 15, 16, 86, 87, 88, 89, 90, 91, 92, 93, 94, 95, 96, 97, 98, 99, 100, 101, 102, 103, 104, 105, 106, 107, 108, 109, 110, 111, 112, 113, 114, 115, 116, 117, 118, 119, 120, 121, 122, 123, 124, 125, 126]
abbrev law28_ReplanStays.D2 : List Nat := [13, 14, 92, 93, 94, 95, 96, 97, 98, 99, 100, 101, 102, 103, 104, 105, 106]
theorem law28_ReplanStays.k : chkFn Go.Proofs.Try.prog 5 128 [.tmp 4] law28_ReplanStays.c = true := by kernel_rfl

/-- conclave/conclavelaw28.ReplanOnce: function 7; parameters: api.Plan, []int; results: bool -/
def law28_ReplanOnce.c : ACode :=
 .seq (.region [⟨none, some 2, .box (.t 0)⟩,
    ⟨none, some 4, .asg (.c (.bool false))⟩])
 (.seq (.region [⟨none, some 5, .asg (.c (.lit (.slice none 0 0)))⟩])
 (.seq (.seq (.region [⟨none, some 6, .asg (.c (.int .i64 0))⟩])
  (.block 0 (.loop (.seq (.seq (.region [⟨none, some 13, .mov (.t 6)⟩,
        ⟨none, some 14, .mov (.t 1)⟩,
        ⟨none, some 15, .len false (.t 14)⟩,
        ⟨none, some 16, .bin .lss (.t 13) (.t 15)⟩])
     (.cond (.t 16) (.skip)
      (.exit 0)))
    (.seq (.block 1 (.region [⟨none, some 19, .mov (.t 5)⟩,
        ⟨none, some 20, .mov (.t 1)⟩,
        ⟨none, some 21, .mov (.t 6)⟩,
        ⟨none, some 22, .idx (.t 20) (.t 21) 1⟩,
        ⟨none, some 23, .ld (.t 22) none⟩,
        ⟨none, some 24, .bslice 1 [.int .i64 0] [(0, 1, (.t 23))]⟩,
        ⟨none, some 25, .bslice 1 [.lit (.slice none 0 0)] [(0, 1, (.t 24))]⟩,
        ⟨none, some 26, .app (.t 19) (.t 25) 1 24⟩,
        ⟨none, some 5, .asg (.t 26)⟩]))
    (.region [⟨none, some 17, .mov (.t 6)⟩,
      ⟨none, some 18, .bin .add (.t 17) (.c (.int .i64 1))⟩,
      ⟨none, some 6, .asg (.t 18)⟩]))))))
 (.seq (.region [⟨none, some 28, .ld (.t 2) (some 8)⟩,
    ⟨none, some 29, .mov (.t 5)⟩,
    ⟨none, some 30, .call 17 [(.t 28), (.t 29)]⟩,
    ⟨none, some 27, .mov (.t 30)⟩,
    ⟨none, some 31, .ext (.t 27) 0⟩,
    ⟨none, some 32, .ext (.t 27) 1⟩,
    ⟨none, some 33, .ext (.t 27) 2⟩,
    ⟨none, some 7, .alloc [.int .u8 0, .int .i64 0, .int .i64 0, .int .i64 0, .int .i64 0, .int .i64 0, .int .i64 0, .int .i64 0]⟩,
    ⟨none, none, .st (.t 7) (.t 31) 8⟩,
    ⟨none, some 8, .asg (.t 32)⟩,
    ⟨none, some 9, .asg (.t 33)⟩])
 (.seq (.region [⟨none, some 35, .ld (.t 2) (some 8)⟩,
    ⟨none, some 36, .mov (.t 1)⟩,
    ⟨none, some 37, .bslice 1 [.lit (.slice none 0 0)] [(0, 1, (.t 36))]⟩,
    ⟨none, some 38, .call 17 [(.t 35), (.t 37)]⟩,
    ⟨none, some 34, .mov (.t 38)⟩,
    ⟨none, some 39, .ext (.t 34) 0⟩,
    ⟨none, some 40, .ext (.t 34) 1⟩,
    ⟨none, some 41, .ext (.t 34) 2⟩,
    ⟨none, some 10, .alloc [.int .u8 0, .int .i64 0, .int .i64 0, .int .i64 0, .int .i64 0, .int .i64 0, .int .i64 0, .int .i64 0]⟩,
    ⟨none, none, .st (.t 10) (.t 39) 8⟩,
    ⟨none, some 11, .asg (.t 40)⟩,
    ⟨none, some 12, .asg (.t 41)⟩])
 (.seq (.seq (.region [⟨none, some 42, .mov (.t 9)⟩,
     ⟨none, some 43, .bin .neq (.t 42) (.c (.int .i64 0))⟩])
  (.cond (.t 43) (.seq (.region [⟨none, some 44, .call 10 []⟩,
      ⟨none, some 45, .mov (.t 44)⟩,
      ⟨some (45, true), some 46, .mov (.t 8)⟩,
      ⟨some (45, true), some 47, .len false (.t 46)⟩,
      ⟨some (45, true), some 48, .bin .eql (.t 47) (.c (.int .i64 0))⟩,
      ⟨none, some 49, .pick (.t 45) (.t 48) (.c (.bool false))⟩,
      ⟨none, some 4, .asg (.t 49)⟩])
   (.ret))
   (.skip)))
 (.seq (.seq (.region [⟨none, some 50, .mov (.t 12)⟩,
     ⟨none, some 51, .bin .neq (.t 50) (.c (.int .i64 0))⟩])
  (.cond (.t 51) (.seq (.region [⟨none, some 52, .mov (.t 1)⟩,
      ⟨none, some 53, .len false (.t 52)⟩,
      ⟨none, some 54, .bin .eql (.t 53) (.c (.int .i64 0))⟩,
      ⟨none, some 55, .mov (.t 54)⟩,
      ⟨some (55, true), some 56, .call 10 []⟩,
      ⟨none, some 57, .pick (.t 55) (.t 56) (.c (.bool false))⟩,
      ⟨none, some 58, .mov (.t 57)⟩,
      ⟨some (58, true), some 59, .ld (.t 2) (some 8)⟩,
      ⟨some (58, true), some 60, .call 16 [(.t 59)]⟩,
      ⟨some (58, true), some 61, .bin .neq (.t 60) (.c (.int .i64 0))⟩,
      ⟨none, some 62, .pick (.t 58) (.t 61) (.c (.bool false))⟩,
      ⟨none, some 4, .asg (.t 62)⟩])
   (.ret))
   (.skip)))
 (.seq (.region [⟨none, some 63, .call 10 []⟩,
    ⟨none, some 64, .mov (.t 63)⟩,
    ⟨some (64, true), some 65, .ld (.t 7) (some 8)⟩,
    ⟨some (64, true), some 66, .ld (.t 10) (some 8)⟩,
    ⟨some (64, true), some 67, .eq (.flat [1, 1, 1, 1, 1, 1, 1, 1]) false (.t 65) (.t 66)⟩,
    ⟨none, some 68, .pick (.t 64) (.t 67) (.c (.bool false))⟩,
    ⟨none, some 69, .mov (.t 68)⟩,
    ⟨some (69, true), some 70, .mov (.t 8)⟩,
    ⟨some (69, true), some 71, .mov (.t 11)⟩,
    ⟨some (69, true), some 72, .call 11 [(.t 70), (.t 71)]⟩,
    ⟨none, some 73, .pick (.t 69) (.t 72) (.c (.bool false))⟩,
    ⟨none, some 4, .asg (.t 73)⟩])
 (.ret))))))))
abbrev law28_ReplanOnce.D0 : List Nat := [5, 6, 13, 14, 15, 16, 17, 18, 19, 20, 21, 22, 23, 24, 25, 26]
theorem law28_ReplanOnce.k : chkFn Go.Proofs.Try.prog 7 74 [.tmp 4] law28_ReplanOnce.c = true := by kernel_rfl

/-- conclave/conclavelaw28.ReplanFresh: function 3; parameters: api.Plan, []int, []int; results: bool -/
def law28_ReplanFresh.c : ACode :=
 .seq (.region [⟨none, some 3, .box (.t 0)⟩,
    ⟨none, some 6, .asg (.c (.bool false))⟩])
 (.seq (.region [⟨none, some 19, .bslice 0 [.int .i64 0] []⟩,
    ⟨none, some 20, .mov (.t 1)⟩,
    ⟨none, some 21, .app (.t 19) (.t 20) 1 8⟩,
    ⟨none, some 22, .bslice 0 [.int .i64 0] []⟩,
    ⟨none, some 23, .mov (.t 2)⟩,
    ⟨none, some 24, .app (.t 22) (.t 23) 1 8⟩,
    ⟨none, some 7, .asg (.t 21)⟩,
    ⟨none, some 8, .asg (.t 24)⟩])
 (.seq (.region [⟨none, some 26, .ld (.t 3) (some 8)⟩,
    ⟨none, some 27, .mov (.t 7)⟩,
    ⟨none, some 28, .mov (.t 8)⟩,
    ⟨none, some 29, .call 8 [(.t 26), (.t 27), (.t 28)]⟩,
    ⟨none, some 25, .mov (.t 29)⟩,
    ⟨none, some 30, .ext (.t 25) 0⟩,
    ⟨none, some 31, .ext (.t 25) 1⟩,
    ⟨none, some 32, .ext (.t 25) 2⟩,
    ⟨none, some 9, .alloc [.int .u8 0, .int .i64 0, .int .i64 0, .int .i64 0, .int .i64 0, .int .i64 0, .int .i64 0, .int .i64 0]⟩,
    ⟨none, none, .st (.t 9) (.t 30) 8⟩,
    ⟨none, some 10, .asg (.t 31)⟩,
    ⟨none, some 11, .asg (.t 32)⟩])
 (.seq (.seq (.region [⟨none, some 12, .asg (.c (.int .i64 0))⟩])
  (.block 0 (.loop (.seq (.seq (.region [⟨none, some 33, .mov (.t 12)⟩,
        ⟨none, some 34, .mov (.t 10)⟩,
        ⟨none, some 35, .len false (.t 34)⟩,
        ⟨none, some 36, .bin .lss (.t 33) (.t 35)⟩])
     (.cond (.t 36) (.skip)
      (.exit 0)))
    (.seq (.block 1 (.region [⟨none, some 39, .mov (.t 10)⟩,
        ⟨none, some 40, .mov (.t 12)⟩,
        ⟨none, some 41, .idx (.t 39) (.t 40) 1⟩,
        ⟨none, none, .st (.t 41) (.c (.int .i64 (-7))) 1⟩]))
    (.region [⟨none, some 37, .mov (.t 12)⟩,
      ⟨none, some 38, .bin .add (.t 37) (.c (.int .i64 1))⟩,
      ⟨none, some 12, .asg (.t 38)⟩]))))))
 (.seq (.region [⟨none, some 43, .ld (.t 3) (some 8)⟩,
    ⟨none, some 44, .mov (.t 7)⟩,
    ⟨none, some 45, .mov (.t 8)⟩,
    ⟨none, some 46, .call 8 [(.t 43), (.t 44), (.t 45)]⟩,
    ⟨none, some 42, .mov (.t 46)⟩,
    ⟨none, some 47, .ext (.t 42) 0⟩,
    ⟨none, some 48, .ext (.t 42) 1⟩,
    ⟨none, some 49, .ext (.t 42) 2⟩,
    ⟨none, some 13, .alloc [.int .u8 0, .int .i64 0, .int .i64 0, .int .i64 0, .int .i64 0, .int .i64 0, .int .i64 0, .int .i64 0]⟩,
    ⟨none, none, .st (.t 13) (.t 47) 8⟩,
    ⟨none, some 14, .asg (.t 48)⟩,
    ⟨none, some 15, .asg (.t 49)⟩])
 (.seq (.region [⟨none, some 51, .ld (.t 3) (some 8)⟩,
    ⟨none, some 52, .mov (.t 1)⟩,
    ⟨none, some 53, .mov (.t 2)⟩,
    ⟨none, some 54, .call 9 [(.t 51), (.t 52), (.t 53)]⟩,
    ⟨none, some 50, .mov (.t 54)⟩,
    ⟨none, some 55, .ext (.t 50) 0⟩,
    ⟨none, some 56, .ext (.t 50) 1⟩,
    ⟨none, some 57, .ext (.t 50) 2⟩,
    ⟨none, some 16, .alloc [.int .u8 0, .int .i64 0, .int .i64 0, .int .i64 0, .int .i64 0, .int .i64 0, .int .i64 0, .int .i64 0]⟩,
    ⟨none, none, .st (.t 16) (.t 55) 8⟩,
    ⟨none, some 17, .asg (.t 56)⟩,
    ⟨none, some 18, .asg (.t 57)⟩])
 (.seq (.region [⟨none, some 58, .call 10 []⟩,
    ⟨none, some 59, .mov (.t 58)⟩,
    ⟨some (59, true), some 60, .mov (.t 7)⟩,
    ⟨some (59, true), some 61, .mov (.t 1)⟩,
    ⟨some (59, true), some 62, .call 11 [(.t 60), (.t 61)]⟩,
    ⟨none, some 63, .pick (.t 59) (.t 62) (.c (.bool false))⟩,
    ⟨none, some 64, .mov (.t 63)⟩,
    ⟨some (64, true), some 65, .mov (.t 8)⟩,
    ⟨some (64, true), some 66, .mov (.t 2)⟩,
    ⟨some (64, true), some 67, .call 11 [(.t 65), (.t 66)]⟩,
    ⟨none, some 68, .pick (.t 64) (.t 67) (.c (.bool false))⟩,
    ⟨none, some 69, .mov (.t 68)⟩,
    ⟨some (69, true), some 70, .ld (.t 13) (some 8)⟩,
    ⟨some (69, true), some 71, .ld (.t 16) (some 8)⟩,
    ⟨some (69, true), some 72, .eq (.flat [1, 1, 1, 1, 1, 1, 1, 1]) false (.t 70) (.t 71)⟩,
    ⟨none, some 73, .pick (.t 69) (.t 72) (.c (.bool false))⟩,
    ⟨none, some 74, .mov (.t 73)⟩,
    ⟨some (74, true), some 75, .mov (.t 14)⟩,
    ⟨some (74, true), some 76, .mov (.t 17)⟩,
    ⟨some (74, true), some 77, .call 11 [(.t 75), (.t 76)]⟩,
    ⟨none, some 78, .pick (.t 74) (.t 77) (.c (.bool false))⟩,
    ⟨none, some 79, .mov (.t 78)⟩,
    ⟨some (79, true), some 80, .mov (.t 15)⟩,
    ⟨some (79, true), some 81, .mov (.t 18)⟩,
    ⟨some (79, true), some 82, .bin .eql (.t 80) (.t 81)⟩,
    ⟨none, some 83, .pick (.t 79) (.t 82) (.c (.bool false))⟩,
    ⟨none, some 6, .asg (.t 83)⟩])
 (.ret)))))))
abbrev law28_ReplanFresh.D0 : List Nat := [12, 33, 34, 35, 36, 37, 38, 39, 40, 41]
theorem law28_ReplanFresh.k : chkFn Go.Proofs.Try.prog 3 84 [.tmp 6] law28_ReplanFresh.c = true := by kernel_rfl

end Go.Proofs.Ytbalpmdoeikkbaa.C
