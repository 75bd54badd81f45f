import Derived.Test.YtapgnmigpfcdfaaAdef
import Derived.Test.YtapgnmigpfcdfaaProg
import Derived.KernelRfl
namespace Go.Proofs.Ytapgnmigpfcdfaa.C
open Go Go.RowKit Go.Proofs.Ytapgnmigpfcdfaa.AL

/-- conclave/conclavelaw21.anchored: function 11; parameters: ; results: bool -/
def law21_anchored.c : ACode :=
 .seq (.region [⟨none, some 0, .asg (.c (.bool false))⟩])
 (.seq (.region [⟨none, some 8, .call 8 [(.c (.int .i64 3))]⟩,
    ⟨none, some 7, .mov (.t 8)⟩,
    ⟨none, some 9, .ext (.t 7) 0⟩,
    ⟨none, some 10, .ext (.t 7) 1⟩,
    ⟨none, some 1, .asg (.t 9)⟩,
    ⟨none, some 2, .asg (.t 10)⟩])
 (.seq (.seq (.region [⟨none, some 11, .mov (.t 2)⟩,
     ⟨none, some 12, .bin .neq (.t 11) (.c (.int .i64 0))⟩,
     ⟨none, some 13, .mov (.t 12)⟩,
     ⟨some (13, false), some 14, .mov (.t 1)⟩,
     ⟨some (13, false), some 15, .eq .ptr false (.t 14) (.c (.lit (.pointer none)))⟩,
     ⟨none, some 16, .pick (.t 13) (.c (.bool true)) (.t 15)⟩,
     ⟨none, some 17, .mov (.t 16)⟩,
     ⟨some (17, false), some 18, .mov (.t 1)⟩,
     ⟨some (17, false), some 19, .bslice 1 [.int .u8 0] [(0, 1, (.c (.int .u8 5)))]⟩,
     ⟨some (17, false), some 20, .call 9 [(.t 18), (.c (.int .i64 0)), (.c (.int .i64 1)), (.t 19)]⟩,
     ⟨some (17, false), some 21, .bin .neq (.t 20) (.c (.int .i64 0))⟩,
     ⟨none, some 22, .pick (.t 17) (.c (.bool true)) (.t 21)⟩,
     ⟨none, some 23, .mov (.t 22)⟩,
     ⟨some (23, false), some 24, .mov (.t 1)⟩,
     ⟨some (23, false), some 25, .bslice 1 [.int .u8 0] [(0, 1, (.c (.int .u8 6)))]⟩,
     ⟨some (23, false), some 26, .call 9 [(.t 24), (.c (.int .i64 0)), (.c (.int .i64 2)), (.t 25)]⟩,
     ⟨some (23, false), some 27, .bin .neq (.t 26) (.c (.int .i64 0))⟩,
     ⟨none, some 28, .pick (.t 23) (.c (.bool true)) (.t 27)⟩])
  (.cond (.t 28) (.seq (.region [⟨none, some 0, .asg (.c (.bool false))⟩])
   (.ret))
   (.skip)))
 (.seq (.region [⟨none, some 30, .mov (.t 1)⟩,
    ⟨none, some 31, .call 18 [(.t 30), (.c (.int .i64 1))]⟩,
    ⟨none, some 29, .mov (.t 31)⟩,
    ⟨none, some 32, .ext (.t 29) 0⟩,
    ⟨none, some 33, .ext (.t 29) 1⟩,
    ⟨none, some 3, .alloc [.int .i64 0, .int .i64 0, .lit (.slice none 0 0)]⟩,
    ⟨none, none, .st (.t 3) (.t 32) 3⟩,
    ⟨none, some 4, .asg (.t 33)⟩])
 (.seq (.region [⟨none, some 35, .mov (.t 1)⟩,
    ⟨none, some 36, .call 18 [(.t 35), (.c (.int .i64 1))]⟩,
    ⟨none, some 34, .mov (.t 36)⟩,
    ⟨none, some 37, .ext (.t 34) 0⟩,
    ⟨none, some 38, .ext (.t 34) 1⟩,
    ⟨none, some 5, .alloc [.int .i64 0, .int .i64 0, .lit (.slice none 0 0)]⟩,
    ⟨none, none, .st (.t 5) (.t 37) 3⟩,
    ⟨none, some 6, .asg (.t 38)⟩])
 (.seq (.region [⟨none, some 39, .mov (.t 4)⟩,
    ⟨none, some 40, .bin .eql (.t 39) (.c (.int .i64 0))⟩,
    ⟨none, some 41, .mov (.t 40)⟩,
    ⟨some (41, true), some 42, .mov (.t 6)⟩,
    ⟨some (41, true), some 43, .bin .eql (.t 42) (.c (.int .i64 2))⟩,
    ⟨none, some 44, .pick (.t 41) (.t 43) (.c (.bool false))⟩,
    ⟨none, some 45, .mov (.t 44)⟩,
    ⟨some (45, true), some 46, .ld (.t 3) (some 3)⟩,
    ⟨some (45, true), some 47, .bslice 1 [.int .u8 0] [(0, 1, (.c (.int .u8 6)))]⟩,
    ⟨some (45, true), some 48, .build [.int .i64 0, .int .i64 0, .lit (.slice none 0 0)] [(1, 1, (.c (.int .i64 2))), (2, 1, (.t 47))]⟩,
    ⟨some (45, true), some 49, .call 13 [(.t 46), (.t 48)]⟩,
    ⟨none, some 50, .pick (.t 45) (.t 49) (.c (.bool false))⟩,
    ⟨none, some 0, .asg (.t 50)⟩])
 (.ret))))))
theorem law21_anchored.k : chkFn Go.Proofs.Try.prog 11 51 [.tmp 0] law21_anchored.c = true := by kernel_rfl

/-- conclave/conclavelaw21.same: function 16; parameters: *net.Net, *conclaveref21.Net, conclavelaw21.Op; results: bool -/
def law21_same.c : ACode :=
 .seq (.region [⟨none, some 5, .box (.t 2)⟩,
    ⟨none, some 6, .asg (.c (.bool false))⟩])
 (.seq (.seq (.region [⟨none, some 14, .fld (.t 5) 0⟩,
     ⟨none, some 15, .ld (.t 14) none⟩])
  (.block 0 (.seq (.region [⟨none, some 17, .bin .eql (.t 15) (.c (.int .u8 0))⟩,
      ⟨none, some 16, .asg (.t 17)⟩])
   (.cond (.t 16) (.seq (.draw [0, 1, 2, 3, 4, 5, 6, 8, 9, 10, 11, 12, 13, 14, 7, 15, 16, 17] [(7, 2), (7, 4), (7, 6), (15, 2), (15, 4), (15, 6), (15, 10), (15, 12), (15, 14), (17, 2), (17, 4), (17, 6), (17, 10), (17, 12), (17, 14)] [⟨none, some 18, .mov (.t 0)⟩,
       ⟨none, some 19, .fld (.t 5) 1⟩,
       ⟨none, some 20, .ld (.t 19) none⟩,
       ⟨none, some 21, .fld (.t 5) 2⟩,
       ⟨none, some 22, .ld (.t 21) none⟩,
       ⟨none, some 23, .fld (.t 5) 3⟩,
       ⟨none, some 24, .ld (.t 23) none⟩,
       ⟨none, some 25, .call 9 [(.t 18), (.t 20), (.t 22), (.t 24)]⟩,
       ⟨none, some 26, .mov (.t 1)⟩,
       ⟨none, some 27, .fld (.t 5) 1⟩,
       ⟨none, some 28, .ld (.t 27) none⟩,
       ⟨none, some 29, .fld (.t 5) 2⟩,
       ⟨none, some 30, .ld (.t 29) none⟩,
       ⟨none, some 31, .fld (.t 5) 3⟩,
       ⟨none, some 32, .ld (.t 31) none⟩,
       ⟨none, some 33, .call 23 [(.t 26), (.t 28), (.t 30), (.t 32)]⟩,
       ⟨none, some 34, .bin .eql (.t 25) (.t 33)⟩,
       ⟨none, some 6, .asg (.t 34)⟩])
    (.ret))
    (.seq (.region [⟨none, some 36, .bin .eql (.t 15) (.c (.int .u8 1))⟩,
       ⟨none, some 35, .asg (.t 36)⟩])
    (.cond (.t 35) (.seq (.region [⟨none, some 38, .mov (.t 0)⟩,
        ⟨none, some 39, .fld (.t 5) 1⟩,
        ⟨none, some 40, .ld (.t 39) none⟩,
        ⟨none, some 41, .call 18 [(.t 38), (.t 40)]⟩,
        ⟨none, some 37, .mov (.t 41)⟩,
        ⟨none, some 42, .ext (.t 37) 0⟩,
        ⟨none, some 43, .ext (.t 37) 1⟩,
        ⟨none, some 7, .alloc [.int .i64 0, .int .i64 0, .lit (.slice none 0 0)]⟩,
        ⟨none, none, .st (.t 7) (.t 42) 3⟩,
        ⟨none, some 8, .asg (.t 43)⟩])
     (.seq (.region [⟨none, some 45, .mov (.t 1)⟩,
        ⟨none, some 46, .fld (.t 5) 1⟩,
        ⟨none, some 47, .ld (.t 46) none⟩,
        ⟨none, some 48, .call 25 [(.t 45), (.t 47)]⟩,
        ⟨none, some 44, .mov (.t 48)⟩,
        ⟨none, some 49, .ext (.t 44) 0⟩,
        ⟨none, some 50, .ext (.t 44) 1⟩,
        ⟨none, some 9, .alloc [.int .i64 0, .int .i64 0, .lit (.slice none 0 0)]⟩,
        ⟨none, none, .st (.t 9) (.t 49) 3⟩,
        ⟨none, some 10, .asg (.t 50)⟩])
     (.seq (.region [⟨none, some 51, .ld (.t 7) (some 3)⟩,
        ⟨none, some 52, .ld (.t 9) (some 3)⟩,
        ⟨none, some 53, .call 13 [(.t 51), (.t 52)]⟩,
        ⟨none, some 54, .mov (.t 53)⟩,
        ⟨some (54, true), some 55, .mov (.t 8)⟩,
        ⟨some (54, true), some 56, .mov (.t 10)⟩,
        ⟨some (54, true), some 57, .bin .eql (.t 55) (.t 56)⟩,
        ⟨none, some 58, .pick (.t 54) (.t 57) (.c (.bool false))⟩,
        ⟨none, some 6, .asg (.t 58)⟩])
     (.ret))))
     (.seq (.region [⟨none, some 60, .bin .eql (.t 15) (.c (.int .u8 2))⟩,
        ⟨none, some 59, .asg (.t 60)⟩])
     (.cond (.t 59) (.seq (.draw [0, 1, 2, 4, 5, 6, 3, 7, 8, 9] [(3, 2), (7, 2), (7, 6), (9, 2), (9, 6)] [⟨none, some 61, .mov (.t 0)⟩,
         ⟨none, some 62, .fld (.t 5) 1⟩,
         ⟨none, some 63, .ld (.t 62) none⟩,
         ⟨none, some 64, .call 19 [(.t 61), (.t 63)]⟩,
         ⟨none, some 65, .mov (.t 1)⟩,
         ⟨none, some 66, .fld (.t 5) 1⟩,
         ⟨none, some 67, .ld (.t 66) none⟩,
         ⟨none, some 68, .call 31 [(.t 65), (.t 67)]⟩,
         ⟨none, some 69, .bin .eql (.t 64) (.t 68)⟩,
         ⟨none, some 6, .asg (.t 69)⟩])
      (.ret))
      (.seq (.region [⟨none, some 71, .bin .eql (.t 15) (.c (.int .u8 3))⟩,
         ⟨none, some 70, .asg (.t 71)⟩])
      (.cond (.t 70) (.seq (.draw [0, 1, 2, 4, 5, 6, 3, 7, 8, 9] [(3, 2), (7, 2), (7, 6), (9, 2), (9, 6)] [⟨none, some 72, .mov (.t 0)⟩,
          ⟨none, some 73, .fld (.t 5) 1⟩,
          ⟨none, some 74, .ld (.t 73) none⟩,
          ⟨none, some 75, .call 20 [(.t 72), (.t 74)]⟩,
          ⟨none, some 76, .mov (.t 1)⟩,
          ⟨none, some 77, .fld (.t 5) 1⟩,
          ⟨none, some 78, .ld (.t 77) none⟩,
          ⟨none, some 79, .call 32 [(.t 76), (.t 78)]⟩,
          ⟨none, some 80, .bin .eql (.t 75) (.t 79)⟩,
          ⟨none, some 6, .asg (.t 80)⟩])
       (.ret))
       (.seq (.region [⟨none, some 82, .bin .eql (.t 15) (.c (.int .u8 4))⟩,
          ⟨none, some 81, .asg (.t 82)⟩])
       (.cond (.t 81) (.seq (.draw [0, 1, 2, 3, 4, 6, 7, 8, 9, 10, 5, 11, 12, 13] [(5, 2), (5, 4), (11, 2), (11, 4), (11, 8), (11, 10), (13, 2), (13, 4), (13, 8), (13, 10)] [⟨none, some 83, .mov (.t 0)⟩,
           ⟨none, some 84, .fld (.t 5) 1⟩,
           ⟨none, some 85, .ld (.t 84) none⟩,
           ⟨none, some 86, .fld (.t 5) 2⟩,
           ⟨none, some 87, .ld (.t 86) none⟩,
           ⟨none, some 88, .call 12 [(.t 83), (.t 85), (.t 87)]⟩,
           ⟨none, some 89, .mov (.t 1)⟩,
           ⟨none, some 90, .fld (.t 5) 1⟩,
           ⟨none, some 91, .ld (.t 90) none⟩,
           ⟨none, some 92, .fld (.t 5) 2⟩,
           ⟨none, some 93, .ld (.t 92) none⟩,
           ⟨none, some 94, .call 33 [(.t 89), (.t 91), (.t 93)]⟩,
           ⟨none, some 95, .bin .eql (.t 88) (.t 94)⟩,
           ⟨none, some 6, .asg (.t 95)⟩])
        (.ret))
        (.seq (.region [⟨none, some 97, .bin .eql (.t 15) (.c (.int .u8 5))⟩,
           ⟨none, some 96, .asg (.t 97)⟩])
        (.cond (.t 96) (.seq (.region [⟨none, some 99, .mov (.t 0)⟩,
            ⟨none, some 100, .call 21 [(.t 99)]⟩,
            ⟨none, some 98, .mov (.t 100)⟩,
            ⟨none, some 101, .ext (.t 98) 0⟩,
            ⟨none, some 102, .ext (.t 98) 1⟩,
            ⟨none, some 103, .ext (.t 98) 2⟩,
            ⟨none, some 11, .asg (.t 101)⟩,
            ⟨none, some 12, .asg (.t 102)⟩,
            ⟨none, some 13, .asg (.t 103)⟩])
         (.seq (.draw [0, 2, 3, 4, 5, 1, 6, 7, 8, 9, 10, 11, 12, 13, 14, 15, 16, 17, 18, 19, 20, 21, 22, 23, 24, 25, 26, 27, 28, 29, 30, 31] [(6, 5), (31, 5), (31, 12), (31, 20), (31, 28)] [⟨none, some 104, .mov (.t 0)⟩,
            ⟨none, some 105, .call 10 [(.t 104)]⟩,
            ⟨none, some 106, .mov (.t 1)⟩,
            ⟨none, some 107, .nilchk (.t 106)⟩,
            ⟨none, some 108, .fld (.t 107) 1⟩,
            ⟨none, some 109, .ld (.t 108) none⟩,
            ⟨none, some 110, .call 14 [(.t 105), (.t 109)]⟩,
            ⟨none, some 111, .mov (.t 110)⟩,
            ⟨some (111, true), some 112, .mov (.t 11)⟩,
            ⟨some (111, true), some 113, .mov (.t 1)⟩,
            ⟨some (111, true), some 114, .nilchk (.t 113)⟩,
            ⟨some (111, true), some 115, .fld (.t 114) 2⟩,
            ⟨some (111, true), some 116, .ld (.t 115) none⟩,
            ⟨some (111, true), some 117, .bin .eql (.t 112) (.t 116)⟩,
            ⟨none, some 118, .pick (.t 111) (.t 117) (.c (.bool false))⟩,
            ⟨none, some 119, .mov (.t 118)⟩,
            ⟨some (119, true), some 120, .mov (.t 12)⟩,
            ⟨some (119, true), some 121, .mov (.t 1)⟩,
            ⟨some (119, true), some 122, .nilchk (.t 121)⟩,
            ⟨some (119, true), some 123, .fld (.t 122) 3⟩,
            ⟨some (119, true), some 124, .ld (.t 123) none⟩,
            ⟨some (119, true), some 125, .bin .eql (.t 120) (.t 124)⟩,
            ⟨none, some 126, .pick (.t 119) (.t 125) (.c (.bool false))⟩,
            ⟨none, some 127, .mov (.t 126)⟩,
            ⟨some (127, true), some 128, .mov (.t 13)⟩,
            ⟨some (127, true), some 129, .mov (.t 1)⟩,
            ⟨some (127, true), some 130, .nilchk (.t 129)⟩,
            ⟨some (127, true), some 131, .fld (.t 130) 4⟩,
            ⟨some (127, true), some 132, .ld (.t 131) none⟩,
            ⟨some (127, true), some 133, .bin .eql (.t 128) (.t 132)⟩,
            ⟨none, some 134, .pick (.t 127) (.t 133) (.c (.bool false))⟩,
            ⟨none, some 6, .asg (.t 134)⟩])
         (.ret)))
         (.skip)))))))))))))))
 (.seq (.region [⟨none, some 6, .asg (.c (.bool true))⟩])
 (.ret)))
abbrev law21_same.K0 : List Nat := [6, 7, 8, 9, 10, 11, 12, 13, 16, 17, 18, 19, 20, 21, 22, 23, 24, 25, 26, 27, 28, 29, 30, 31, 32, 33, 34, 35, 36, 37, 38, 39, 40, 41, 42, 43, 44, 45, 46, 47, 48, 49, 50, 51, 52, 53, 54, 55, 56, 57, 58, 59, 60, 61, 62, 63, 64, 65, 66, 67, 68, 69, 70, 71, 72, 73, 74, 75, 76, 77, 78, 79, 80, 81, 82, 83, 84, 85, 86, 87, 88, 89, 90, 91, 92, 93, 94, 95, 96, 97, 98, 99, 100, 101, 102, 103, 104, 105, 106, 107, 108, 109, 110, 111, 112, 113, 114, 115, 116, 117, 118, 119, 120, 121, 122, 123, 124, 125, 126, 127, 128, 129, 130, 131, 132, 133, 134]
theorem law21_same.k : chkFn Go.Proofs.Try.prog 16 135 [.tmp 6] law21_same.c = true := by kernel_rfl

/-- conclave/conclavelaw21.NetMoves: function 3; parameters: []conclavelaw21.Op, uint8, uint8; results: bool -/
def law21_NetMoves.c : ACode :=
 .seq (.region [⟨none, some 6, .asg (.c (.bool false))⟩])
 (.seq (.region [⟨none, some 17, .call 8 [(.c (.int .i64 5))]⟩,
    ⟨none, some 16, .mov (.t 17)⟩,
    ⟨none, some 18, .ext (.t 16) 0⟩,
    ⟨none, some 19, .ext (.t 16) 1⟩,
    ⟨none, some 7, .asg (.t 18)⟩,
    ⟨none, some 8, .asg (.t 19)⟩])
 (.seq (.seq (.region [⟨none, some 9, .asg (.c (.int .i64 0))⟩])
  (.block 0 (.loop (.seq (.seq (.region [⟨none, some 20, .mov (.t 9)⟩,
        ⟨none, some 21, .mov (.t 0)⟩,
        ⟨none, some 22, .len false (.t 21)⟩,
        ⟨none, some 23, .bin .lss (.t 20) (.t 22)⟩])
     (.cond (.t 23) (.skip)
      (.exit 0)))
    (.seq (.block 1 (.seq (.region [⟨none, some 26, .mov (.t 0)⟩,
         ⟨none, some 27, .mov (.t 9)⟩,
         ⟨none, some 28, .idx (.t 26) (.t 27) 4⟩,
         ⟨none, some 29, .fld (.t 28) 0⟩,
         ⟨none, some 30, .ld (.t 29) none⟩,
         ⟨none, some 31, .bin .eql (.t 30) (.c (.int .u8 0))⟩])
      (.cond (.t 31) (.draw [0, 1, 2, 3, 4, 5, 6, 7, 8, 9, 10, 11, 12, 13, 14, 15, 16] [(16, 5), (16, 10), (16, 15)] [⟨none, some 32, .mov (.t 7)⟩,
         ⟨none, some 33, .mov (.t 0)⟩,
         ⟨none, some 34, .mov (.t 9)⟩,
         ⟨none, some 35, .idx (.t 33) (.t 34) 4⟩,
         ⟨none, some 36, .fld (.t 35) 1⟩,
         ⟨none, some 37, .ld (.t 36) none⟩,
         ⟨none, some 38, .mov (.t 0)⟩,
         ⟨none, some 39, .mov (.t 9)⟩,
         ⟨none, some 40, .idx (.t 38) (.t 39) 4⟩,
         ⟨none, some 41, .fld (.t 40) 2⟩,
         ⟨none, some 42, .ld (.t 41) none⟩,
         ⟨none, some 43, .mov (.t 0)⟩,
         ⟨none, some 44, .mov (.t 9)⟩,
         ⟨none, some 45, .idx (.t 43) (.t 44) 4⟩,
         ⟨none, some 46, .fld (.t 45) 3⟩,
         ⟨none, some 47, .ld (.t 46) none⟩,
         ⟨none, some 48, .call 9 [(.t 32), (.t 37), (.t 42), (.t 47)]⟩])
       (.skip))))
    (.region [⟨none, some 24, .mov (.t 9)⟩,
      ⟨none, some 25, .bin .add (.t 24) (.c (.int .i64 1))⟩,
      ⟨none, some 9, .asg (.t 25)⟩]))))))
 (.seq (.region [⟨none, some 49, .mov (.t 7)⟩,
    ⟨none, some 50, .call 10 [(.t 49)]⟩,
    ⟨none, some 10, .asg (.t 50)⟩])
 (.seq (.seq (.region [⟨none, some 51, .mov (.t 8)⟩,
     ⟨none, some 52, .bin .neq (.t 51) (.c (.int .i64 0))⟩,
     ⟨none, some 53, .mov (.t 52)⟩,
     ⟨some (53, false), some 54, .mov (.t 10)⟩,
     ⟨some (53, false), some 55, .len false (.t 54)⟩,
     ⟨some (53, false), some 56, .bin .eql (.t 55) (.c (.int .i64 0))⟩,
     ⟨none, some 57, .pick (.t 53) (.c (.bool true)) (.t 56)⟩])
  (.cond (.t 57) (.seq (.region [⟨none, some 58, .call 11 []⟩,
      ⟨none, some 6, .asg (.t 58)⟩])
   (.ret))
   (.skip)))
 (.seq (.draw [0, 1, 2, 3, 4, 5, 6, 7, 8, 9, 10, 11] [] [⟨none, some 59, .mov (.t 1)⟩,
    ⟨none, some 60, .conv .i64 (.t 59)⟩,
    ⟨none, some 61, .mov (.t 10)⟩,
    ⟨none, some 62, .len false (.t 61)⟩,
    ⟨none, some 63, .bin .rem (.t 60) (.t 62)⟩,
    ⟨none, some 64, .mov (.t 2)⟩,
    ⟨none, some 65, .conv .i64 (.t 64)⟩,
    ⟨none, some 66, .mov (.t 10)⟩,
    ⟨none, some 67, .len false (.t 66)⟩,
    ⟨none, some 68, .bin .rem (.t 65) (.t 67)⟩,
    ⟨none, some 11, .asg (.t 63)⟩,
    ⟨none, some 12, .asg (.t 68)⟩])
 (.seq (.region [⟨none, some 69, .mov (.t 7)⟩,
    ⟨none, some 70, .mov (.t 11)⟩,
    ⟨none, some 71, .mov (.t 12)⟩,
    ⟨none, some 72, .call 12 [(.t 69), (.t 70), (.t 71)]⟩,
    ⟨none, some 13, .asg (.t 72)⟩])
 (.seq (.region [⟨none, some 73, .mov (.t 7)⟩,
    ⟨none, some 74, .call 10 [(.t 73)]⟩,
    ⟨none, some 14, .asg (.t 74)⟩])
 (.seq (.seq (.draw [0, 1, 2, 3, 4, 5, 6, 7, 8, 9, 10, 11, 12, 13, 14, 15, 16, 17, 18, 19, 20] [(18, 13), (18, 17)] [⟨none, some 75, .mov (.t 13)⟩,
     ⟨none, some 76, .bin .neq (.t 75) (.c (.int .i64 0))⟩,
     ⟨none, some 77, .mov (.t 76)⟩,
     ⟨some (77, false), some 78, .mov (.t 14)⟩,
     ⟨some (77, false), some 79, .len false (.t 78)⟩,
     ⟨some (77, false), some 80, .mov (.t 10)⟩,
     ⟨some (77, false), some 81, .len false (.t 80)⟩,
     ⟨some (77, false), some 82, .bin .neq (.t 79) (.t 81)⟩,
     ⟨none, some 83, .pick (.t 77) (.c (.bool true)) (.t 82)⟩,
     ⟨none, some 84, .mov (.t 83)⟩,
     ⟨some (84, false), some 85, .mov (.t 14)⟩,
     ⟨some (84, false), some 86, .mov (.t 12)⟩,
     ⟨some (84, false), some 87, .idx (.t 85) (.t 86) 3⟩,
     ⟨some (84, false), some 88, .ld (.t 87) (some 3)⟩,
     ⟨some (84, false), some 89, .mov (.t 10)⟩,
     ⟨some (84, false), some 90, .mov (.t 11)⟩,
     ⟨some (84, false), some 91, .idx (.t 89) (.t 90) 3⟩,
     ⟨some (84, false), some 92, .ld (.t 91) (some 3)⟩,
     ⟨some (84, false), some 93, .call 13 [(.t 88), (.t 92)]⟩,
     ⟨some (84, false), some 94, .not (.t 93)⟩,
     ⟨none, some 95, .pick (.t 84) (.c (.bool true)) (.t 94)⟩])
  (.cond (.t 95) (.seq (.region [⟨none, some 6, .asg (.c (.bool false))⟩])
   (.ret))
   (.skip)))
 (.seq (.region [⟨none, some 96, .mov (.t 7)⟩,
    ⟨none, some 97, .mov (.t 12)⟩,
    ⟨none, some 98, .mov (.t 11)⟩,
    ⟨none, some 99, .call 12 [(.t 96), (.t 97), (.t 98)]⟩,
    ⟨none, some 15, .asg (.t 99)⟩])
 (.seq (.region [⟨none, some 100, .call 11 []⟩,
    ⟨none, some 101, .mov (.t 100)⟩,
    ⟨some (101, true), some 102, .mov (.t 15)⟩,
    ⟨some (101, true), some 103, .bin .eql (.t 102) (.c (.int .i64 0))⟩,
    ⟨none, some 104, .pick (.t 101) (.t 103) (.c (.bool false))⟩,
    ⟨none, some 105, .mov (.t 104)⟩,
    ⟨some (105, true), some 106, .mov (.t 7)⟩,
    ⟨some (105, true), some 107, .call 10 [(.t 106)]⟩,
    ⟨some (105, true), some 108, .mov (.t 10)⟩,
    ⟨some (105, true), some 109, .call 14 [(.t 107), (.t 108)]⟩,
    ⟨none, some 110, .pick (.t 105) (.t 109) (.c (.bool false))⟩,
    ⟨none, some 6, .asg (.t 110)⟩])
 (.ret)))))))))))
abbrev law21_NetMoves.D0 : List Nat := [9, 20, 21, 22, 23, 24, 25, 26, 27, 28, 29, 30, 31, 32, 33, 34, 35, 36, 37, 38, 39, 40, 41, 42, 43, 44, 45, 46, 47, 48]
abbrev law21_NetMoves.K0 : List Nat := [9, 20, 21, 22, 23, 24, 25, 26, 27, 28, 29, 30, 31, 32, 33, 34, 35, 36, 37, 38, 39, 40, 41, 42, 43, 44, 45, 46, 47, 48]
abbrev law21_NetMoves.K1 : List Nat := [26, 27, 28, 29, 30, 31, 32, 33, 34, 35, 36, 37, 38, 39, 40, 41, 42, 43, 44, 45, 46, 47, 48]
theorem law21_NetMoves.k : chkFn Go.Proofs.Try.prog 3 111 [.tmp 6] law21_NetMoves.c = true := by kernel_rfl

/-- conclave/conclavelaw21.NetPlays: function 4; parameters: int, []conclavelaw21.Op; results: bool -/
def law21_NetPlays.c : ACode :=
 .seq (.region [⟨none, some 4, .asg (.c (.bool false))⟩])
 (.seq (.region [⟨none, some 11, .mov (.t 0)⟩,
    ⟨none, some 12, .call 8 [(.t 11)]⟩,
    ⟨none, some 10, .mov (.t 12)⟩,
    ⟨none, some 13, .ext (.t 10) 0⟩,
    ⟨none, some 14, .ext (.t 10) 1⟩,
    ⟨none, some 5, .asg (.t 13)⟩,
    ⟨none, some 6, .asg (.t 14)⟩])
 (.seq (.region [⟨none, some 16, .mov (.t 0)⟩,
    ⟨none, some 17, .call 15 [(.t 16)]⟩,
    ⟨none, some 15, .mov (.t 17)⟩,
    ⟨none, some 18, .ext (.t 15) 0⟩,
    ⟨none, some 19, .ext (.t 15) 1⟩,
    ⟨none, some 7, .alloc [.int .i64 0, .lit (.slice none 0 0), .int .i64 0, .int .i64 0, .int .i64 0]⟩,
    ⟨none, none, .st (.t 7) (.t 18) 5⟩,
    ⟨none, some 8, .asg (.t 19)⟩])
 (.seq (.seq (.region [⟨none, some 20, .mov (.t 6)⟩,
     ⟨none, some 21, .mov (.t 8)⟩,
     ⟨none, some 22, .bin .neq (.t 20) (.t 21)⟩,
     ⟨none, some 23, .mov (.t 22)⟩,
     ⟨some (23, false), some 24, .mov (.t 5)⟩,
     ⟨some (23, false), some 25, .eq .ptr true (.t 24) (.c (.lit (.pointer none)))⟩,
     ⟨some (23, false), some 26, .mov (.t 6)⟩,
     ⟨some (23, false), some 27, .bin .eql (.t 26) (.c (.int .i64 0))⟩,
     ⟨some (23, false), some 28, .eq .bool true (.t 25) (.t 27)⟩,
     ⟨none, some 29, .pick (.t 23) (.c (.bool true)) (.t 28)⟩])
  (.cond (.t 29) (.seq (.region [⟨none, some 4, .asg (.c (.bool false))⟩])
   (.ret))
   (.skip)))
 (.seq (.seq (.region [⟨none, some 9, .asg (.c (.int .i64 0))⟩])
  (.block 0 (.loop (.seq (.seq (.region [⟨none, some 30, .mov (.t 9)⟩,
        ⟨none, some 31, .mov (.t 1)⟩,
        ⟨none, some 32, .len false (.t 31)⟩,
        ⟨none, some 33, .bin .lss (.t 30) (.t 32)⟩,
        ⟨none, some 34, .mov (.t 33)⟩,
        ⟨some (34, true), some 35, .mov (.t 6)⟩,
        ⟨some (34, true), some 36, .bin .eql (.t 35) (.c (.int .i64 0))⟩,
        ⟨none, some 37, .pick (.t 34) (.t 36) (.c (.bool false))⟩])
     (.cond (.t 37) (.skip)
      (.exit 0)))
    (.seq (.block 1 (.seq (.region [⟨none, some 40, .mov (.t 5)⟩,
         ⟨none, some 41, .mov (.t 1)⟩,
         ⟨none, some 42, .mov (.t 9)⟩,
         ⟨none, some 43, .idx (.t 41) (.t 42) 4⟩,
         ⟨none, some 44, .ld (.t 43) (some 4)⟩,
         ⟨none, some 45, .call 16 [(.t 40), (.t 7), (.t 44)]⟩,
         ⟨none, some 46, .not (.t 45)⟩])
      (.cond (.t 46) (.seq (.region [⟨none, some 4, .asg (.c (.bool false))⟩])
       (.ret))
       (.skip))))
    (.region [⟨none, some 38, .mov (.t 9)⟩,
      ⟨none, some 39, .bin .add (.t 38) (.c (.int .i64 1))⟩,
      ⟨none, some 9, .asg (.t 39)⟩]))))))
 (.seq (.region [⟨none, some 47, .call 11 []⟩,
    ⟨none, some 4, .asg (.t 47)⟩])
 (.ret))))))
abbrev law21_NetPlays.D0 : List Nat := [4, 9, 30, 31, 32, 33, 34, 35, 36, 37, 38, 39, 40, 41, 42, 43, 44, 45, 46]
abbrev law21_NetPlays.K0 : List Nat := [4, 9, 30, 31, 32, 33, 34, 35, 36, 37, 38, 39, 40, 41, 42, 43, 44, 45, 46]
abbrev law21_NetPlays.K1 : List Nat := [4, 40, 41, 42, 43, 44, 45, 46]
theorem law21_NetPlays.k : chkFn Go.Proofs.Try.prog 4 48 [.tmp 4] law21_NetPlays.c = true := by kernel_rfl

/-- conclave/conclavelaw21.NetHonest: function 5; parameters: []conclavelaw21.Op; results: bool -/
def law21_NetHonest.c : ACode :=
 .seq (.region [⟨none, some 2, .asg (.c (.bool false))⟩])
 (.seq (.region [⟨none, some 16, .call 8 [(.c (.int .i64 5))]⟩,
    ⟨none, some 15, .mov (.t 16)⟩,
    ⟨none, some 17, .ext (.t 15) 0⟩,
    ⟨none, some 18, .ext (.t 15) 1⟩,
    ⟨none, some 3, .asg (.t 17)⟩,
    ⟨none, some 4, .asg (.t 18)⟩])
 (.seq (.seq (.region [⟨none, some 19, .mov (.t 4)⟩,
     ⟨none, some 20, .bin .neq (.t 19) (.c (.int .i64 0))⟩])
  (.cond (.t 20) (.seq (.region [⟨none, some 2, .asg (.c (.bool false))⟩])
   (.ret))
   (.skip)))
 (.seq (.region [⟨none, some 5, .asg (.c (.lit (.slice none 0 0)))⟩])
 (.seq (.seq (.region [⟨none, some 6, .asg (.c (.int .i64 0))⟩])
  (.block 0 (.loop (.seq (.seq (.region [⟨none, some 21, .mov (.t 6)⟩,
        ⟨none, some 22, .mov (.t 0)⟩,
        ⟨none, some 23, .len false (.t 22)⟩,
        ⟨none, some 24, .bin .lss (.t 21) (.t 23)⟩])
     (.cond (.t 24) (.skip)
      (.exit 0)))
    (.seq (.block 1 (.seq (.region [⟨none, some 27, .mov (.t 0)⟩,
         ⟨none, some 28, .mov (.t 6)⟩,
         ⟨none, some 29, .idx (.t 27) (.t 28) 4⟩,
         ⟨none, some 30, .ld (.t 29) (some 4)⟩,
         ⟨none, some 7, .alloc [.int .u8 0, .int .i64 0, .int .i64 0, .lit (.slice none 0 0)]⟩,
         ⟨none, none, .st (.t 7) (.t 30) 4⟩])
      (.seq (.seq (.region [⟨none, some 31, .fld (.t 7) 0⟩,
          ⟨none, some 32, .ld (.t 31) none⟩])
       (.block 2 (.seq (.region [⟨none, some 34, .bin .eql (.t 32) (.c (.int .u8 0))⟩,
           ⟨none, some 33, .asg (.t 34)⟩])
        (.cond (.t 33) (.seq (.region [⟨none, some 35, .mov (.t 3)⟩,
            ⟨none, some 36, .fld (.t 7) 1⟩,
            ⟨none, some 37, .ld (.t 36) none⟩,
            ⟨none, some 38, .fld (.t 7) 2⟩,
            ⟨none, some 39, .ld (.t 38) none⟩,
            ⟨none, some 40, .fld (.t 7) 3⟩,
            ⟨none, some 41, .ld (.t 40) none⟩,
            ⟨none, some 42, .call 9 [(.t 35), (.t 37), (.t 39), (.t 41)]⟩,
            ⟨none, some 43, .bin .eql (.t 42) (.c (.int .i64 0))⟩])
         (.cond (.t 43) (.draw [0, 1, 2, 3, 4, 5, 6, 7, 8, 9, 10, 11] [(7, 6), (9, 2), (9, 4), (9, 6), (10, 2), (10, 4), (10, 6), (11, 2), (11, 4), (11, 6)] [⟨none, some 44, .mov (.t 5)⟩,
            ⟨none, some 45, .fld (.t 7) 1⟩,
            ⟨none, some 46, .ld (.t 45) none⟩,
            ⟨none, some 47, .fld (.t 7) 2⟩,
            ⟨none, some 48, .ld (.t 47) none⟩,
            ⟨none, some 49, .fld (.t 7) 3⟩,
            ⟨none, some 50, .ld (.t 49) none⟩,
            ⟨none, some 51, .call 17 [(.t 50)]⟩,
            ⟨none, some 52, .build [.int .i64 0, .int .i64 0, .lit (.slice none 0 0)] [(0, 1, (.t 46)), (1, 1, (.t 48)), (2, 1, (.t 51))]⟩,
            ⟨none, some 53, .bslice 1 [.int .i64 0, .int .i64 0, .lit (.slice none 0 0)] [(0, 3, (.t 52))]⟩,
            ⟨none, some 54, .app (.t 44) (.t 53) 3 40⟩,
            ⟨none, some 5, .asg (.t 54)⟩])
          (.skip)))
         (.seq (.region [⟨none, some 56, .bin .eql (.t 32) (.c (.int .u8 1))⟩,
            ⟨none, some 55, .asg (.t 56)⟩])
         (.cond (.t 55) (.seq (.region [⟨none, some 58, .mov (.t 3)⟩,
             ⟨none, some 59, .fld (.t 7) 1⟩,
             ⟨none, some 60, .ld (.t 59) none⟩,
             ⟨none, some 61, .call 18 [(.t 58), (.t 60)]⟩,
             ⟨none, some 57, .mov (.t 61)⟩,
             ⟨none, some 62, .ext (.t 57) 0⟩,
             ⟨none, some 63, .ext (.t 57) 1⟩,
             ⟨none, some 8, .alloc [.int .i64 0, .int .i64 0, .lit (.slice none 0 0)]⟩,
             ⟨none, none, .st (.t 8) (.t 62) 3⟩,
             ⟨none, some 9, .asg (.t 63)⟩])
          (.seq (.region [⟨none, some 64, .mov (.t 9)⟩,
             ⟨none, some 65, .bin .neq (.t 64) (.c (.int .i64 0))⟩,
             ⟨none, some 10, .asg (.t 65)⟩])
          (.seq (.seq (.region [⟨none, some 11, .asg (.c (.int .i64 0))⟩])
           (.block 3 (.loop (.seq (.seq (.region [⟨none, some 66, .mov (.t 11)⟩,
                 ⟨none, some 67, .mov (.t 5)⟩,
                 ⟨none, some 68, .len false (.t 67)⟩,
                 ⟨none, some 69, .bin .lss (.t 66) (.t 68)⟩])
              (.cond (.t 69) (.skip)
               (.exit 3)))
             (.seq (.block 4 (.draw [0, 1, 2, 3, 4, 5, 6, 7, 8, 9] [(7, 5), (7, 6), (9, 5), (9, 6)] [⟨none, some 72, .mov (.t 10)⟩,
                 ⟨none, some 73, .mov (.t 72)⟩,
                 ⟨some (73, false), some 74, .mov (.t 5)⟩,
                 ⟨some (73, false), some 75, .mov (.t 11)⟩,
                 ⟨some (73, false), some 76, .idx (.t 74) (.t 75) 3⟩,
                 ⟨some (73, false), some 77, .ld (.t 76) (some 3)⟩,
                 ⟨some (73, false), some 78, .ld (.t 8) (some 3)⟩,
                 ⟨some (73, false), some 79, .call 13 [(.t 77), (.t 78)]⟩,
                 ⟨none, some 80, .pick (.t 73) (.c (.bool true)) (.t 79)⟩,
                 ⟨none, some 10, .asg (.t 80)⟩]))
             (.region [⟨none, some 70, .mov (.t 11)⟩,
               ⟨none, some 71, .bin .add (.t 70) (.c (.int .i64 1))⟩,
               ⟨none, some 11, .asg (.t 71)⟩]))))))
          (.seq (.region [⟨none, some 81, .mov (.t 10)⟩,
             ⟨none, some 82, .not (.t 81)⟩])
          (.cond (.t 82) (.seq (.region [⟨none, some 2, .asg (.c (.bool false))⟩])
           (.ret))
           (.skip))))))
          (.seq (.region [⟨none, some 84, .bin .eql (.t 32) (.c (.int .u8 2))⟩,
             ⟨none, some 83, .asg (.t 84)⟩])
          (.cond (.t 83) (.region [⟨none, some 85, .mov (.t 3)⟩,
             ⟨none, some 86, .fld (.t 7) 1⟩,
             ⟨none, some 87, .ld (.t 86) none⟩,
             ⟨none, some 88, .call 19 [(.t 85), (.t 87)]⟩])
           (.seq (.region [⟨none, some 90, .bin .eql (.t 32) (.c (.int .u8 3))⟩,
              ⟨none, some 89, .asg (.t 90)⟩])
           (.cond (.t 89) (.region [⟨none, some 91, .mov (.t 3)⟩,
              ⟨none, some 92, .fld (.t 7) 1⟩,
              ⟨none, some 93, .ld (.t 92) none⟩,
              ⟨none, some 94, .call 20 [(.t 91), (.t 93)]⟩])
            (.seq (.region [⟨none, some 96, .bin .eql (.t 32) (.c (.int .u8 4))⟩,
               ⟨none, some 95, .asg (.t 96)⟩])
            (.cond (.t 95) (.region [⟨none, some 97, .mov (.t 3)⟩,
               ⟨none, some 98, .fld (.t 7) 1⟩,
               ⟨none, some 99, .ld (.t 98) none⟩,
               ⟨none, some 100, .fld (.t 7) 2⟩,
               ⟨none, some 101, .ld (.t 100) none⟩,
               ⟨none, some 102, .call 12 [(.t 97), (.t 99), (.t 101)]⟩])
             (.skip)))))))))))))
      (.seq (.region [⟨none, some 104, .mov (.t 3)⟩,
         ⟨none, some 105, .call 21 [(.t 104)]⟩,
         ⟨none, some 103, .mov (.t 105)⟩,
         ⟨none, some 106, .ext (.t 103) 0⟩,
         ⟨none, some 107, .ext (.t 103) 1⟩,
         ⟨none, some 108, .ext (.t 103) 2⟩,
         ⟨none, some 12, .asg (.t 106)⟩,
         ⟨none, some 13, .asg (.t 107)⟩,
         ⟨none, some 14, .asg (.t 108)⟩])
      (.seq (.region [⟨none, some 109, .mov (.t 3)⟩,
         ⟨none, some 110, .call 10 [(.t 109)]⟩,
         ⟨none, some 111, .len false (.t 110)⟩,
         ⟨none, some 112, .mov (.t 12)⟩,
         ⟨none, some 113, .mov (.t 13)⟩,
         ⟨none, some 114, .bin .sub (.t 112) (.t 113)⟩,
         ⟨none, some 115, .mov (.t 14)⟩,
         ⟨none, some 116, .bin .sub (.t 114) (.t 115)⟩,
         ⟨none, some 117, .bin .neq (.t 111) (.t 116)⟩])
      (.cond (.t 117) (.seq (.region [⟨none, some 2, .asg (.c (.bool false))⟩])
       (.ret))
       (.skip)))))))
    (.region [⟨none, some 25, .mov (.t 6)⟩,
      ⟨none, some 26, .bin .add (.t 25) (.c (.int .i64 1))⟩,
      ⟨none, some 6, .asg (.t 26)⟩]))))))
 (.seq (.region [⟨none, some 118, .call 11 []⟩,
    ⟨none, some 2, .asg (.t 118)⟩])
 (.ret))))))
abbrev law21_NetHonest.D0 : List Nat := [2, 5, 6, 7, 8, 9, 10, 11, 12, 13, 14, 21, 22, 23, 24, 25, 26, 27, 28, 29, 30, 31, 32, 33, 34, 35, 36, 37, 38, 39, 40, 41, 42, 43, 44, 45, 46, 47, 48, 49, 50, 51, 52, 53, 54, 55, 56, 57, 58, 59, 60, 61, 62, 63, 64, 65, 66, 67, 68, 69, 70, 71, 72, 73, 74, 75, 76, 77, 78, 79, 80, 81, 82, 83, 84, 85, 86, 87, 88, 89, 90, 91, 92, 93, 94, 95, 96, 97, 98, 99, 100, 101, 102, 103, 104, 105, 106, 107, 108, 109, 110, 111, 112, 113, 114, 115, 116, 117]
abbrev law21_NetHonest.D1 : List Nat := [10, 11, 66, 67, 68, 69, 70, 71, 72, 73, 74, 75, 76, 77, 78, 79, 80]
abbrev law21_NetHonest.K0 : List Nat := [2, 5, 6, 7, 8, 9, 10, 11, 12, 13, 14, 21, 22, 23, 24, 25, 26, 27, 28, 29, 30, 31, 32, 33, 34, 35, 36, 37, 38, 39, 40, 41, 42, 43, 44, 45, 46, 47, 48, 49, 50, 51, 52, 53, 54, 55, 56, 57, 58, 59, 60, 61, 62, 63, 64, 65, 66, 67, 68, 69, 70, 71, 72, 73, 74, 75, 76, 77, 78, 79, 80, 81, 82, 83, 84, 85, 86, 87, 88, 89, 90, 91, 92, 93, 94, 95, 96, 97, 98, 99, 100, 101, 102, 103, 104, 105, 106, 107, 108, 109, 110, 111, 112, 113, 114, 115, 116, 117]
abbrev law21_NetHonest.K1 : List Nat := [2, 5, 7, 8, 9, 10, 11, 12, 13, 14, 27, 28, 29, 30, 31, 32, 33, 34, 35, 36, 37, 38, 39, 40, 41, 42, 43, 44, 45, 46, 47, 48, 49, 50, 51, 52, 53, 54, 55, 56, 57, 58, 59, 60, 61, 62, 63, 64, 65, 66, 67, 68, 69, 70, 71, 72, 73, 74, 75, 76, 77, 78, 79, 80, 81, 82, 83, 84, 85, 86, 87, 88, 89, 90, 91, 92, 93, 94, 95, 96, 97, 98, 99, 100, 101, 102, 103, 104, 105, 106, 107, 108, 109, 110, 111, 112, 113, 114, 115, 116, 117]
abbrev law21_NetHonest.K2 : List Nat := [2, 5, 8, 9, 10, 11, 33, 34, 35, 36, 37, 38, 39, 40, 41, 42, 43, 44, 45, 46, 47, 48, 49, 50, 51, 52, 53, 54, 55, 56, 57, 58, 59, 60, 61, 62, 63, 64, 65, 66, 67, 68, 69, 70, 71, 72, 73, 74, 75, 76, 77, 78, 79, 80, 81, 82, 83, 84, 85, 86, 87, 88, 89, 90, 91, 92, 93, 94, 95, 96, 97, 98, 99, 100, 101, 102]
abbrev law21_NetHonest.K3 : List Nat := [10, 11, 66, 67, 68, 69, 70, 71, 72, 73, 74, 75, 76, 77, 78, 79, 80]
abbrev law21_NetHonest.K4 : List Nat := [10, 72, 73, 74, 75, 76, 77, 78, 79, 80]
theorem law21_NetHonest.k : chkFn Go.Proofs.Try.prog 5 119 [.tmp 2] law21_NetHonest.c = true := by kernel_rfl

/-- conclave/conclavelaw21.NetNil: function 6; parameters: int, int; results: bool -/
def law21_NetNil.c : ACode :=
 .seq (.region [⟨none, some 4, .asg (.c (.bool false))⟩])
 (.seq (.region [⟨none, some 5, .asg (.c (.lit (.pointer none)))⟩])
 (.seq (.region [⟨none, some 12, .mov (.t 5)⟩,
    ⟨none, some 13, .mov (.t 0)⟩,
    ⟨none, some 14, .call 18 [(.t 12), (.t 13)]⟩,
    ⟨none, some 11, .mov (.t 14)⟩,
    ⟨none, some 15, .ext (.t 11) 0⟩,
    ⟨none, some 16, .ext (.t 11) 1⟩,
    ⟨none, some 6, .alloc [.int .i64 0, .int .i64 0, .lit (.slice none 0 0)]⟩,
    ⟨none, none, .st (.t 6) (.t 15) 3⟩,
    ⟨none, some 7, .asg (.t 16)⟩])
 (.seq (.region [⟨none, some 18, .mov (.t 5)⟩,
    ⟨none, some 19, .call 21 [(.t 18)]⟩,
    ⟨none, some 17, .mov (.t 19)⟩,
    ⟨none, some 20, .ext (.t 17) 0⟩,
    ⟨none, some 21, .ext (.t 17) 1⟩,
    ⟨none, some 22, .ext (.t 17) 2⟩,
    ⟨none, some 8, .asg (.t 20)⟩,
    ⟨none, some 9, .asg (.t 21)⟩,
    ⟨none, some 10, .asg (.t 22)⟩])
 (.seq (.region [⟨none, some 23, .mov (.t 5)⟩,
    ⟨none, some 24, .mov (.t 0)⟩,
    ⟨none, some 25, .mov (.t 1)⟩,
    ⟨none, some 26, .call 9 [(.t 23), (.t 24), (.t 25), (.c (.lit (.slice none 0 0)))]⟩,
    ⟨none, some 27, .bin .eql (.t 26) (.c (.int .i64 1))⟩,
    ⟨none, some 28, .mov (.t 27)⟩,
    ⟨some (28, true), some 29, .mov (.t 7)⟩,
    ⟨some (28, true), some 30, .bin .eql (.t 29) (.c (.int .i64 1))⟩,
    ⟨none, some 31, .pick (.t 28) (.t 30) (.c (.bool false))⟩,
    ⟨none, some 32, .mov (.t 31)⟩,
    ⟨some (32, true), some 33, .mov (.t 5)⟩,
    ⟨some (32, true), some 34, .mov (.t 0)⟩,
    ⟨some (32, true), some 35, .call 19 [(.t 33), (.t 34)]⟩,
    ⟨some (32, true), some 36, .bin .eql (.t 35) (.c (.int .i64 1))⟩,
    ⟨none, some 37, .pick (.t 32) (.t 36) (.c (.bool false))⟩,
    ⟨none, some 38, .mov (.t 37)⟩,
    ⟨some (38, true), some 39, .mov (.t 5)⟩,
    ⟨some (38, true), some 40, .mov (.t 0)⟩,
    ⟨some (38, true), some 41, .call 20 [(.t 39), (.t 40)]⟩,
    ⟨some (38, true), some 42, .bin .eql (.t 41) (.c (.int .i64 1))⟩,
    ⟨none, some 43, .pick (.t 38) (.t 42) (.c (.bool false))⟩,
    ⟨none, some 44, .mov (.t 43)⟩,
    ⟨some (44, true), some 45, .mov (.t 5)⟩,
    ⟨some (44, true), some 46, .mov (.t 0)⟩,
    ⟨some (44, true), some 47, .mov (.t 1)⟩,
    ⟨some (44, true), some 48, .call 12 [(.t 45), (.t 46), (.t 47)]⟩,
    ⟨some (44, true), some 49, .bin .eql (.t 48) (.c (.int .i64 1))⟩,
    ⟨none, some 50, .pick (.t 44) (.t 49) (.c (.bool false))⟩,
    ⟨none, some 51, .mov (.t 50)⟩,
    ⟨some (51, true), some 52, .mov (.t 5)⟩,
    ⟨some (51, true), some 53, .call 10 [(.t 52)]⟩,
    ⟨some (51, true), some 54, .len false (.t 53)⟩,
    ⟨some (51, true), some 55, .bin .eql (.t 54) (.c (.int .i64 0))⟩,
    ⟨none, some 56, .pick (.t 51) (.t 55) (.c (.bool false))⟩,
    ⟨none, some 57, .mov (.t 56)⟩,
    ⟨some (57, true), some 58, .mov (.t 8)⟩,
    ⟨some (57, true), some 59, .mov (.t 9)⟩,
    ⟨some (57, true), some 60, .bin .add (.t 58) (.t 59)⟩,
    ⟨some (57, true), some 61, .mov (.t 10)⟩,
    ⟨some (57, true), some 62, .bin .add (.t 60) (.t 61)⟩,
    ⟨some (57, true), some 63, .bin .eql (.t 62) (.c (.int .i64 0))⟩,
    ⟨none, some 64, .pick (.t 57) (.t 63) (.c (.bool false))⟩,
    ⟨none, some 65, .mov (.t 64)⟩,
    ⟨some (65, true), some 66, .mov (.t 5)⟩,
    ⟨some (65, true), some 67, .call 22 [(.t 66)]⟩,
    ⟨some (65, true), some 68, .eq .ptr false (.t 67) (.c (.lit (.pointer none)))⟩,
    ⟨none, some 69, .pick (.t 65) (.t 68) (.c (.bool false))⟩,
    ⟨none, some 70, .mov (.t 69)⟩,
    ⟨some (70, true), some 71, .call 11 []⟩,
    ⟨none, some 72, .pick (.t 70) (.t 71) (.c (.bool false))⟩,
    ⟨none, some 4, .asg (.t 72)⟩])
 (.ret)))))
theorem law21_NetNil.k : chkFn Go.Proofs.Try.prog 6 73 [.tmp 4] law21_NetNil.c = true := by kernel_rfl

/-- conclave/conclavelaw21.NetFresh: function 7; parameters: []conclavelaw21.Op, []uint8; results: bool -/
def law21_NetFresh.c : ACode :=
 .seq (.region [⟨none, some 4, .asg (.c (.bool false))⟩])
 (.seq (.region [⟨none, some 17, .call 8 [(.c (.int .i64 5))]⟩,
    ⟨none, some 16, .mov (.t 17)⟩,
    ⟨none, some 18, .ext (.t 16) 0⟩,
    ⟨none, some 19, .ext (.t 16) 1⟩,
    ⟨none, some 5, .asg (.t 18)⟩,
    ⟨none, some 6, .asg (.t 19)⟩])
 (.seq (.region [⟨none, some 21, .call 15 [(.c (.int .i64 5))]⟩,
    ⟨none, some 20, .mov (.t 21)⟩,
    ⟨none, some 22, .ext (.t 20) 0⟩,
    ⟨none, some 23, .ext (.t 20) 1⟩,
    ⟨none, some 7, .alloc [.int .i64 0, .lit (.slice none 0 0), .int .i64 0, .int .i64 0, .int .i64 0]⟩,
    ⟨none, none, .st (.t 7) (.t 22) 5⟩,
    ⟨none, some 8, .asg (.t 23)⟩])
 (.seq (.seq (.region [⟨none, some 9, .asg (.c (.int .i64 0))⟩])
  (.block 0 (.loop (.seq (.seq (.region [⟨none, some 24, .mov (.t 9)⟩,
        ⟨none, some 25, .mov (.t 0)⟩,
        ⟨none, some 26, .len false (.t 25)⟩,
        ⟨none, some 27, .bin .lss (.t 24) (.t 26)⟩])
     (.cond (.t 27) (.skip)
      (.exit 0)))
    (.seq (.block 1 (.seq (.region [⟨none, some 30, .mov (.t 5)⟩,
         ⟨none, some 31, .mov (.t 0)⟩,
         ⟨none, some 32, .mov (.t 9)⟩,
         ⟨none, some 33, .idx (.t 31) (.t 32) 4⟩,
         ⟨none, some 34, .ld (.t 33) (some 4)⟩,
         ⟨none, some 35, .call 16 [(.t 30), (.t 7), (.t 34)]⟩,
         ⟨none, some 36, .not (.t 35)⟩])
      (.cond (.t 36) (.seq (.region [⟨none, some 4, .asg (.c (.bool false))⟩])
       (.ret))
       (.skip))))
    (.region [⟨none, some 28, .mov (.t 9)⟩,
      ⟨none, some 29, .bin .add (.t 28) (.c (.int .i64 1))⟩,
      ⟨none, some 9, .asg (.t 29)⟩]))))))
 (.seq (.region [⟨none, some 37, .mov (.t 1)⟩,
    ⟨none, some 38, .call 17 [(.t 37)]⟩,
    ⟨none, some 10, .asg (.t 38)⟩])
 (.seq (.seq (.region [⟨none, some 39, .mov (.t 6)⟩,
     ⟨none, some 40, .bin .neq (.t 39) (.c (.int .i64 0))⟩,
     ⟨none, some 41, .mov (.t 40)⟩,
     ⟨some (41, false), some 42, .mov (.t 5)⟩,
     ⟨some (41, false), some 43, .mov (.t 10)⟩,
     ⟨some (41, false), some 44, .call 9 [(.t 42), (.c (.int .i64 1)), (.c (.int .i64 2)), (.t 43)]⟩,
     ⟨some (41, false), some 45, .bin .neq (.t 44) (.c (.int .i64 0))⟩,
     ⟨none, some 46, .pick (.t 41) (.c (.bool true)) (.t 45)⟩])
  (.cond (.t 46) (.seq (.region [⟨none, some 47, .call 11 []⟩,
      ⟨none, some 48, .mov (.t 47)⟩,
      ⟨some (48, true), some 49, .fld (.t 7) 1⟩,
      ⟨some (48, true), some 50, .ld (.t 49) none⟩,
      ⟨some (48, true), some 51, .len false (.t 50)⟩,
      ⟨some (48, true), some 52, .bin .eql (.t 51) (.c (.int .i64 4096))⟩,
      ⟨some (48, true), some 53, .mov (.t 52)⟩,
      ⟨some (53, false), some 54, .mov (.t 1)⟩,
      ⟨some (53, false), some 55, .len false (.t 54)⟩,
      ⟨some (53, false), some 56, .bin .gtr (.t 55) (.c (.int .i64 1048576))⟩,
      ⟨some (48, true), some 57, .pick (.t 53) (.c (.bool true)) (.t 56)⟩,
      ⟨none, some 58, .pick (.t 48) (.t 57) (.c (.bool false))⟩,
      ⟨none, some 4, .asg (.t 58)⟩])
   (.ret))
   (.skip)))
 (.seq (.region [⟨none, some 59, .mov (.t 1)⟩,
    ⟨none, some 60, .call 23 [(.t 7), (.c (.int .i64 1)), (.c (.int .i64 2)), (.t 59)]⟩])
 (.seq (.region [⟨none, some 61, .mov (.t 10)⟩,
    ⟨none, some 62, .call 24 [(.t 61), (.c (.int .u8 9))]⟩])
 (.seq (.region [⟨none, some 63, .mov (.t 5)⟩,
    ⟨none, some 64, .call 10 [(.t 63)]⟩,
    ⟨none, some 11, .asg (.t 64)⟩])
 (.seq (.seq (.region [⟨none, some 12, .asg (.c (.int .i64 0))⟩])
  (.block 2 (.loop (.seq (.seq (.region [⟨none, some 65, .mov (.t 12)⟩,
        ⟨none, some 66, .mov (.t 11)⟩,
        ⟨none, some 67, .len false (.t 66)⟩,
        ⟨none, some 68, .bin .lss (.t 65) (.t 67)⟩])
     (.cond (.t 68) (.skip)
      (.exit 2)))
    (.seq (.block 3 (.seq (.region [⟨none, some 71, .mov (.t 11)⟩,
         ⟨none, some 72, .mov (.t 12)⟩,
         ⟨none, some 73, .idx (.t 71) (.t 72) 3⟩,
         ⟨none, some 74, .fld (.t 73) 2⟩,
         ⟨none, some 75, .ld (.t 74) none⟩,
         ⟨none, some 76, .mov (.t 12)⟩,
         ⟨none, some 77, .conv .u8 (.t 76)⟩,
         ⟨none, some 78, .call 24 [(.t 75), (.t 77)]⟩])
      (.region [⟨none, some 79, .mov (.t 11)⟩,
        ⟨none, some 80, .mov (.t 12)⟩,
        ⟨none, some 81, .build [.int .i64 0, .int .i64 0, .lit (.slice none 0 0)] []⟩,
        ⟨none, some 82, .idx (.t 79) (.t 80) 3⟩,
        ⟨none, none, .st (.t 82) (.t 81) 3⟩])))
    (.region [⟨none, some 69, .mov (.t 12)⟩,
      ⟨none, some 70, .bin .add (.t 69) (.c (.int .i64 1))⟩,
      ⟨none, some 12, .asg (.t 70)⟩]))))))
 (.seq (.region [⟨none, some 83, .mov (.t 5)⟩,
    ⟨none, some 84, .call 22 [(.t 83)]⟩,
    ⟨none, some 13, .asg (.t 84)⟩])
 (.seq (.seq (.region [⟨none, some 85, .mov (.t 13)⟩,
     ⟨none, some 86, .eq .ptr false (.t 85) (.c (.lit (.pointer none)))⟩])
  (.cond (.t 86) (.seq (.region [⟨none, some 4, .asg (.c (.bool false))⟩])
   (.ret))
   (.skip)))
 (.seq (.region [⟨none, some 87, .mov (.t 13)⟩,
    ⟨none, some 88, .call 19 [(.t 87), (.c (.int .i64 0))]⟩])
 (.seq (.region [⟨none, some 90, .mov (.t 5)⟩,
    ⟨none, some 91, .call 18 [(.t 90), (.c (.int .i64 0))]⟩,
    ⟨none, some 89, .mov (.t 91)⟩,
    ⟨none, some 92, .ext (.t 89) 0⟩,
    ⟨none, some 93, .ext (.t 89) 1⟩,
    ⟨none, some 14, .alloc [.int .i64 0, .int .i64 0, .lit (.slice none 0 0)]⟩,
    ⟨none, none, .st (.t 14) (.t 92) 3⟩,
    ⟨none, some 15, .asg (.t 93)⟩])
 (.seq (.region [⟨none, some 94, .fld (.t 14) 2⟩,
    ⟨none, some 95, .ld (.t 94) none⟩,
    ⟨none, some 96, .call 24 [(.t 95), (.c (.int .u8 3))]⟩])
 (.seq (.region [⟨none, some 97, .call 25 [(.t 7), (.c (.int .i64 0))]⟩])
 (.seq (.draw [0, 1, 2, 3, 4, 5, 6, 8, 9, 7, 10, 11, 12, 13, 16, 17, 18, 14, 15, 19, 20, 21] [(10, 9), (14, 9), (21, 9), (21, 17)] [⟨none, some 98, .call 11 []⟩,
    ⟨none, some 99, .mov (.t 98)⟩,
    ⟨some (99, true), some 100, .mov (.t 15)⟩,
    ⟨some (99, true), some 101, .bin .eql (.t 100) (.c (.int .i64 0))⟩,
    ⟨none, some 102, .pick (.t 99) (.t 101) (.c (.bool false))⟩,
    ⟨none, some 103, .mov (.t 102)⟩,
    ⟨some (103, true), some 104, .mov (.t 5)⟩,
    ⟨some (103, true), some 105, .call 10 [(.t 104)]⟩,
    ⟨some (103, true), some 106, .fld (.t 7) 1⟩,
    ⟨some (103, true), some 107, .ld (.t 106) none⟩,
    ⟨some (103, true), some 108, .call 14 [(.t 105), (.t 107)]⟩,
    ⟨none, some 109, .pick (.t 103) (.t 108) (.c (.bool false))⟩,
    ⟨none, some 110, .mov (.t 109)⟩,
    ⟨some (110, true), some 111, .mov (.t 13)⟩,
    ⟨some (110, true), some 112, .call 10 [(.t 111)]⟩,
    ⟨some (110, true), some 113, .len false (.t 112)⟩,
    ⟨some (110, true), some 114, .fld (.t 7) 1⟩,
    ⟨some (110, true), some 115, .ld (.t 114) none⟩,
    ⟨some (110, true), some 116, .len false (.t 115)⟩,
    ⟨some (110, true), some 117, .bin .eql (.t 113) (.t 116)⟩,
    ⟨none, some 118, .pick (.t 110) (.t 117) (.c (.bool false))⟩,
    ⟨none, some 4, .asg (.t 118)⟩])
 (.ret)))))))))))))))))
abbrev law21_NetFresh.D0 : List Nat := [4, 9, 24, 25, 26, 27, 28, 29, 30, 31, 32, 33, 34, 35, 36]
abbrev law21_NetFresh.D1 : List Nat := [12, 65, 66, 67, 68, 69, 70, 71, 72, 73, 74, 75, 76, 77, 78, 79, 80, 81, 82]
abbrev law21_NetFresh.K0 : List Nat := [4, 9, 24, 25, 26, 27, 28, 29, 30, 31, 32, 33, 34, 35, 36]
abbrev law21_NetFresh.K1 : List Nat := [4, 30, 31, 32, 33, 34, 35, 36]
abbrev law21_NetFresh.K2 : List Nat := [12, 65, 66, 67, 68, 69, 70, 71, 72, 73, 74, 75, 76, 77, 78, 79, 80, 81, 82]
abbrev law21_NetFresh.K3 : List Nat := [71, 72, 73, 74, 75, 76, 77, 78, 79, 80, 81, 82]
theorem law21_NetFresh.k : chkFn Go.Proofs.Try.prog 7 119 [.tmp 4] law21_NetFresh.c = true := by kernel_rfl

end Go.Proofs.Ytapgnmigpfcdfaa.C
