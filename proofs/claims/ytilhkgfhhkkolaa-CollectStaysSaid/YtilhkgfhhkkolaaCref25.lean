import Derived.Test.YtilhkgfhhkkolaaAdef
import Derived.Test.YtilhkgfhhkkolaaProg
import Derived.KernelRfl
namespace Go.Proofs.Ytilhkgfhhkkolaa.C
open Go Go.RowKit Go.Proofs.Ytilhkgfhhkkolaa.AL

/-- conclave/conclaveref25.Well: function 6; parameters: api.Plan, int, int, int, []uint8; results: api.Reply, int -/
def ref25_Well.c : ACode :=
 .seq (.region [⟨none, some 5, .box (.t 0)⟩,
    ⟨none, some 10, .alloc [.int .i64 0, .lit (.slice none 0 0)]⟩,
    ⟨none, some 11, .asg (.c (.int .i64 0))⟩])
 (.seq (.seq (.region [⟨none, some 14, .ld (.t 5) (some 8)⟩,
     ⟨none, some 15, .mov (.t 1)⟩,
     ⟨none, some 16, .mov (.t 2)⟩,
     ⟨none, some 17, .call 15 [(.t 14), (.t 15), (.t 16)]⟩])
  (.cond (.t 17) (.seq (.region [⟨none, some 18, .build [.int .i64 0, .lit (.slice none 0 0)] []⟩,
      ⟨none, none, .st (.t 10) (.t 18) 2⟩,
      ⟨none, some 11, .asg (.c (.int .i64 2))⟩])
   (.ret))
   (.skip)))
 (.seq (.region [⟨none, some 20, .mov (.t 4)⟩,
    ⟨none, some 21, .call 16 [(.t 20)]⟩,
    ⟨none, some 19, .mov (.t 21)⟩,
    ⟨none, some 22, .ext (.t 19) 0⟩,
    ⟨none, some 23, .ext (.t 19) 1⟩,
    ⟨none, some 12, .alloc [.int .u8 0, .int .i64 0, .int .i64 0, .int .u8 0, .lit (.slice none 0 0)]⟩,
    ⟨none, none, .st (.t 12) (.t 22) 5⟩,
    ⟨none, some 13, .asg (.t 23)⟩])
 (.seq (.seq (.region [⟨none, some 24, .mov (.t 13)⟩,
     ⟨none, some 25, .bin .neq (.t 24) (.c (.int .i64 0))⟩,
     ⟨none, some 26, .mov (.t 25)⟩,
     ⟨some (26, false), some 27, .fld (.t 12) 0⟩,
     ⟨some (26, false), some 28, .ld (.t 27) none⟩,
     ⟨some (26, false), some 29, .bin .neq (.t 28) (.c (.int .u8 2))⟩,
     ⟨none, some 30, .pick (.t 26) (.c (.bool true)) (.t 29)⟩,
     ⟨none, some 31, .mov (.t 30)⟩,
     ⟨some (31, false), some 32, .fld (.t 12) 1⟩,
     ⟨some (31, false), some 33, .ld (.t 32) none⟩,
     ⟨some (31, false), some 34, .mov (.t 2)⟩,
     ⟨some (31, false), some 35, .bin .neq (.t 33) (.t 34)⟩,
     ⟨none, some 36, .pick (.t 31) (.c (.bool true)) (.t 35)⟩,
     ⟨none, some 37, .mov (.t 36)⟩,
     ⟨some (37, false), some 38, .fld (.t 12) 2⟩,
     ⟨some (37, false), some 39, .ld (.t 38) none⟩,
     ⟨some (37, false), some 40, .mov (.t 3)⟩,
     ⟨some (37, false), some 41, .bin .sub (.t 40) (.c (.int .i64 1))⟩,
     ⟨some (37, false), some 42, .bin .neq (.t 39) (.t 41)⟩,
     ⟨none, some 43, .pick (.t 37) (.c (.bool true)) (.t 42)⟩,
     ⟨none, some 44, .mov (.t 43)⟩,
     ⟨some (44, false), some 45, .fld (.t 12) 2⟩,
     ⟨some (44, false), some 46, .ld (.t 45) none⟩,
     ⟨some (44, false), some 47, .fld (.t 5) 1⟩,
     ⟨some (44, false), some 48, .ld (.t 47) none⟩,
     ⟨some (44, false), some 49, .bin .geq (.t 46) (.t 48)⟩,
     ⟨none, some 50, .pick (.t 44) (.c (.bool true)) (.t 49)⟩,
     ⟨none, some 51, .mov (.t 50)⟩,
     ⟨some (51, false), some 52, .fld (.t 12) 3⟩,
     ⟨some (51, false), some 53, .ld (.t 52) none⟩,
     ⟨some (51, false), some 54, .fld (.t 5) 0⟩,
     ⟨some (51, false), some 55, .ld (.t 54) none⟩,
     ⟨some (51, false), some 56, .bin .neq (.t 53) (.t 55)⟩,
     ⟨none, some 57, .pick (.t 51) (.c (.bool true)) (.t 56)⟩,
     ⟨none, some 58, .mov (.t 57)⟩,
     ⟨some (58, false), some 59, .fld (.t 12) 4⟩,
     ⟨some (58, false), some 60, .ld (.t 59) none⟩,
     ⟨some (58, false), some 61, .len false (.t 60)⟩,
     ⟨some (58, false), some 62, .mov (.t 1)⟩,
     ⟨some (58, false), some 63, .bin .neq (.t 61) (.t 62)⟩,
     ⟨none, some 64, .pick (.t 58) (.c (.bool true)) (.t 63)⟩])
  (.cond (.t 64) (.seq (.region [⟨none, some 65, .build [.int .i64 0, .lit (.slice none 0 0)] []⟩,
      ⟨none, none, .st (.t 10) (.t 65) 2⟩,
      ⟨none, some 11, .asg (.c (.int .i64 8))⟩])
   (.ret))
   (.skip)))
 (.seq (.region [⟨none, some 66, .fld (.t 12) 2⟩,
    ⟨none, some 67, .ld (.t 66) none⟩,
    ⟨none, some 68, .fld (.t 12) 4⟩,
    ⟨none, some 69, .ld (.t 68) none⟩,
    ⟨none, some 70, .build [.int .i64 0, .lit (.slice none 0 0)] [(0, 1, (.t 67)), (1, 1, (.t 69))]⟩,
    ⟨none, none, .st (.t 10) (.t 70) 2⟩,
    ⟨none, some 11, .asg (.c (.int .i64 0))⟩])
 (.ret)))))
theorem ref25_Well.k : chkFn Go.Proofs.Try.prog 6 71 [.cell 10 (some 2), .tmp 11] ref25_Well.c = true := by kernel_rfl

/-- conclave/conclaveref25.bad: function 15; parameters: api.Plan, int, int; results: bool -/
def ref25_bad.c : ACode :=
 .seq (.region [⟨none, some 3, .box (.t 0)⟩,
    ⟨none, some 6, .asg (.c (.bool false))⟩])
 (.seq (.region [⟨none, some 7, .ld (.t 3) (some 8)⟩,
    ⟨none, some 8, .call 20 [(.t 7)]⟩,
    ⟨none, some 9, .not (.t 8)⟩,
    ⟨none, some 10, .mov (.t 9)⟩,
    ⟨some (10, false), some 11, .mov (.t 1)⟩,
    ⟨some (10, false), some 12, .bin .lss (.t 11) (.c (.int .i64 0))⟩,
    ⟨none, some 13, .pick (.t 10) (.c (.bool true)) (.t 12)⟩,
    ⟨none, some 14, .mov (.t 13)⟩,
    ⟨some (14, false), some 15, .mov (.t 1)⟩,
    ⟨some (14, false), some 16, .bin .gtr (.t 15) (.c (.int .i64 64))⟩,
    ⟨none, some 17, .pick (.t 14) (.c (.bool true)) (.t 16)⟩,
    ⟨none, some 18, .mov (.t 17)⟩,
    ⟨some (18, false), some 19, .mov (.t 2)⟩,
    ⟨some (18, false), some 20, .bin .lss (.t 19) (.c (.int .i64 0))⟩,
    ⟨none, some 21, .pick (.t 18) (.c (.bool true)) (.t 20)⟩,
    ⟨none, some 22, .mov (.t 21)⟩,
    ⟨some (22, false), some 23, .mov (.t 2)⟩,
    ⟨some (22, false), some 24, .bin .geq (.t 23) (.c (.int .i64 65536))⟩,
    ⟨none, some 25, .pick (.t 22) (.c (.bool true)) (.t 24)⟩,
    ⟨none, some 6, .asg (.t 25)⟩])
 (.ret))
theorem ref25_bad.k : chkFn Go.Proofs.Try.prog 15 26 [.tmp 6] ref25_bad.c = true := by kernel_rfl

/-- conclave/conclaveref25.First: function 9; parameters: api.Plan, int, int, []api.Packet; results: []api.Reply, int -/
def ref25_First.c : ACode :=
 .seq (.region [⟨none, some 4, .box (.t 0)⟩,
    ⟨none, some 8, .asg (.c (.lit (.slice none 0 0)))⟩,
    ⟨none, some 9, .asg (.c (.int .i64 0))⟩])
 (.seq (.seq (.region [⟨none, some 14, .ld (.t 4) (some 8)⟩,
     ⟨none, some 15, .mov (.t 1)⟩,
     ⟨none, some 16, .mov (.t 2)⟩,
     ⟨none, some 17, .call 15 [(.t 14), (.t 15), (.t 16)]⟩])
  (.cond (.t 17) (.seq (.region [⟨none, some 8, .asg (.c (.lit (.slice none 0 0)))⟩,
      ⟨none, some 9, .asg (.c (.int .i64 2))⟩])
   (.ret))
   (.skip)))
 (.seq (.region [⟨none, some 10, .asg (.c (.lit (.slice none 0 0)))⟩])
 (.seq (.seq (.region [⟨none, some 11, .asg (.c (.int .i64 0))⟩])
  (.block 0 (.loop (.seq (.seq (.region [⟨none, some 18, .mov (.t 11)⟩,
        ⟨none, some 19, .mov (.t 3)⟩,
        ⟨none, some 20, .len false (.t 19)⟩,
        ⟨none, some 21, .bin .lss (.t 18) (.t 20)⟩])
     (.cond (.t 21) (.skip)
      (.exit 0)))
    (.seq (.block 1 (.seq (.draw (.pure 0 (.pure 1 (.pure 2 (.pure 3 (.pure 4 (.pure 5 (.pure 6 (.pure 7 (.pure 8 (.pure 9 (.pure 10 (.pure 11 (.pure 12 (.alt 13 (.pure 14 (.pure 15 (.pure 16 (.alt 17 (.alt 18 (.alt 19 .nil .stop) .stop) .stop)))) (.alt 17 (.alt 13 (.pure 14 (.pure 15 (.pure 16 (.alt 18 (.alt 19 .nil .stop) .stop)))) .stop) .stop))))))))))))))) [(13, 0), (13, 7), (13, 12), (18, 0), (18, 7), (18, 12), (19, 0), (19, 7), (19, 12)] [⟨none, some 25, .ld (.t 4) (some 8)⟩,
         ⟨none, some 26, .mov (.t 1)⟩,
         ⟨none, some 27, .mov (.t 2)⟩,
         ⟨none, some 28, .mov (.t 3)⟩,
         ⟨none, some 29, .mov (.t 11)⟩,
         ⟨none, some 30, .idx (.t 28) (.t 29) 3⟩,
         ⟨none, some 31, .fld (.t 30) 0⟩,
         ⟨none, some 32, .ld (.t 31) none⟩,
         ⟨none, some 33, .mov (.t 3)⟩,
         ⟨none, some 34, .mov (.t 11)⟩,
         ⟨none, some 35, .idx (.t 33) (.t 34) 3⟩,
         ⟨none, some 36, .fld (.t 35) 2⟩,
         ⟨none, some 37, .ld (.t 36) none⟩,
         ⟨none, some 38, .call 6 [(.t 25), (.t 26), (.t 27), (.t 32), (.t 37)]⟩,
         ⟨none, some 24, .mov (.t 38)⟩,
         ⟨none, some 39, .ext (.t 24) 0⟩,
         ⟨none, some 40, .ext (.t 24) 1⟩,
         ⟨none, some 12, .alloc [.int .i64 0, .lit (.slice none 0 0)]⟩,
         ⟨none, none, .st (.t 12) (.t 39) 2⟩,
         ⟨none, some 13, .asg (.t 40)⟩])
      (.seq (.seq (.region [⟨none, some 41, .mov (.t 13)⟩,
          ⟨none, some 42, .bin .neq (.t 41) (.c (.int .i64 0))⟩,
          ⟨none, some 43, .mov (.t 42)⟩,
          ⟨some (43, false), some 44, .mov (.t 3)⟩,
          ⟨some (43, false), some 45, .mov (.t 11)⟩,
          ⟨some (43, false), some 46, .idx (.t 44) (.t 45) 3⟩,
          ⟨some (43, false), some 47, .fld (.t 46) 1⟩,
          ⟨some (43, false), some 48, .ld (.t 47) none⟩,
          ⟨some (43, false), some 49, .bin .neq (.t 48) (.c (.int .i64 0))⟩,
          ⟨none, some 50, .pick (.t 43) (.c (.bool true)) (.t 49)⟩,
          ⟨none, some 51, .mov (.t 50)⟩,
          ⟨some (51, false), some 52, .mov (.t 10)⟩,
          ⟨some (51, false), some 53, .fld (.t 12) 0⟩,
          ⟨some (51, false), some 54, .ld (.t 53) none⟩,
          ⟨some (51, false), some 55, .call 17 [(.t 52), (.t 54)]⟩,
          ⟨none, some 56, .pick (.t 51) (.c (.bool true)) (.t 55)⟩])
       (.cond (.t 56) (.exit 1)
        (.skip)))
      (.region [⟨none, some 57, .mov (.t 10)⟩,
        ⟨none, some 58, .ld (.t 12) (some 2)⟩,
        ⟨none, some 59, .bslice 1 [.int .i64 0, .lit (.slice none 0 0)] [(0, 2, (.t 58))]⟩,
        ⟨none, some 60, .app (.t 57) (.t 59) 2 32⟩,
        ⟨none, some 10, .asg (.t 60)⟩]))))
    (.region [⟨none, some 22, .mov (.t 11)⟩,
      ⟨none, some 23, .bin .add (.t 22) (.c (.int .i64 1))⟩,
      ⟨none, some 11, .asg (.t 23)⟩]))))))
 (.seq (.region [⟨none, some 61, .mov (.t 10)⟩,
    ⟨none, some 8, .asg (.t 61)⟩,
    ⟨none, some 9, .asg (.c (.int .i64 0))⟩])
 (.ret)))))
abbrev ref25_First.D0 : List Nat := [10, 11, 12, 13, 18, 19, 20, 21, 22, 23, 24, 25, 26, 27, 28, 29, 30, 31, 32, 33, 34, 35, 36, 37, 38, 39, 40, 41, 42, 43, 44, 45, 46, 47, 48, 49, 50, 51, 52, 53, 54, 55, 56, 57, 58, 59, 60]
abbrev ref25_First.K0 : List Nat := [10, 11, 12, 13, 18, 19, 20, 21, 22, 23, 24, 25, 26, 27, 28, 29, 30, 31, 32, 33, 34, 35, 36, 37, 38, 39, 40, 41, 42, 43, 44, 45, 46, 47, 48, 49, 50, 51, 52, 53, 54, 55, 56, 57, 58, 59, 60]
abbrev ref25_First.K1 : List Nat := [10, 12, 13, 24, 25, 26, 27, 28, 29, 30, 31, 32, 33, 34, 35, 36, 37, 38, 39, 40, 41, 42, 43, 44, 45, 46, 47, 48, 49, 50, 51, 52, 53, 54, 55, 56, 57, 58, 59, 60]
theorem ref25_First.k : chkFn Go.Proofs.Try.prog 9 62 [.tmp 8, .tmp 9] ref25_First.c = true := by kernel_rfl

/-- conclave/conclaveref25.has: function 17; parameters: []api.Reply, int; results: bool -/
def ref25_has.c : ACode :=
 .seq (.region [⟨none, some 4, .asg (.c (.bool false))⟩])
 (.seq (.seq (.region [⟨none, some 5, .asg (.c (.int .i64 0))⟩])
  (.block 0 (.loop (.seq (.seq (.region [⟨none, some 6, .mov (.t 5)⟩,
        ⟨none, some 7, .mov (.t 0)⟩,
        ⟨none, some 8, .len false (.t 7)⟩,
        ⟨none, some 9, .bin .lss (.t 6) (.t 8)⟩])
     (.cond (.t 9) (.skip)
      (.exit 0)))
    (.seq (.block 1 (.seq (.region [⟨none, some 12, .mov (.t 0)⟩,
         ⟨none, some 13, .mov (.t 5)⟩,
         ⟨none, some 14, .idx (.t 12) (.t 13) 2⟩,
         ⟨none, some 15, .fld (.t 14) 0⟩,
         ⟨none, some 16, .ld (.t 15) none⟩,
         ⟨none, some 17, .mov (.t 1)⟩,
         ⟨none, some 18, .bin .eql (.t 16) (.t 17)⟩])
      (.cond (.t 18) (.seq (.region [⟨none, some 4, .asg (.c (.bool true))⟩])
       (.ret))
       (.skip))))
    (.region [⟨none, some 10, .mov (.t 5)⟩,
      ⟨none, some 11, .bin .add (.t 10) (.c (.int .i64 1))⟩,
      ⟨none, some 5, .asg (.t 11)⟩]))))))
 (.seq (.region [⟨none, some 4, .asg (.c (.bool false))⟩])
 (.ret)))
abbrev ref25_has.D0 : List Nat := [4, 5, 6, 7, 8, 9, 10, 11, 12, 13, 14, 15, 16, 17, 18]
abbrev ref25_has.K0 : List Nat := [4, 5, 6, 7, 8, 9, 10, 11, 12, 13, 14, 15, 16, 17, 18]
abbrev ref25_has.K1 : List Nat := [4, 12, 13, 14, 15, 16, 17, 18]
theorem ref25_has.k : chkFn Go.Proofs.Try.prog 17 19 [.tmp 4] ref25_has.c = true := by kernel_rfl

/-- conclave/conclaveref12.May: function 20; parameters: api.Plan; results: bool -/
def ref12_May.c : ACode :=
 .seq (.region [⟨none, some 1, .box (.t 0)⟩,
    ⟨none, some 2, .asg (.c (.bool false))⟩])
 (.seq (.region [⟨none, some 3, .fld (.t 1) 0⟩,
    ⟨none, some 4, .ld (.t 3) none⟩,
    ⟨none, some 5, .conv .i64 (.t 4)⟩,
    ⟨none, some 6, .call 33 [(.t 5), (.c (.int .i64 1)), (.c (.int .i64 2))]⟩,
    ⟨none, some 7, .mov (.t 6)⟩,
    ⟨some (7, true), some 8, .fld (.t 1) 1⟩,
    ⟨some (7, true), some 9, .ld (.t 8) none⟩,
    ⟨some (7, true), some 10, .call 33 [(.t 9), (.c (.int .i64 1)), (.c (.int .i64 64))]⟩,
    ⟨none, some 11, .pick (.t 7) (.t 10) (.c (.bool false))⟩,
    ⟨none, some 12, .mov (.t 11)⟩,
    ⟨some (12, true), some 13, .fld (.t 1) 2⟩,
    ⟨some (12, true), some 14, .ld (.t 13) none⟩,
    ⟨some (12, true), some 15, .call 33 [(.t 14), (.c (.int .i64 1)), (.c (.int .i64 64))]⟩,
    ⟨none, some 16, .pick (.t 12) (.t 15) (.c (.bool false))⟩,
    ⟨none, some 17, .mov (.t 16)⟩,
    ⟨some (17, true), some 18, .fld (.t 1) 7⟩,
    ⟨some (17, true), some 19, .ld (.t 18) none⟩,
    ⟨some (17, true), some 20, .call 33 [(.t 19), (.c (.int .i64 1)), (.c (.int .i64 64))]⟩,
    ⟨none, some 21, .pick (.t 17) (.t 20) (.c (.bool false))⟩,
    ⟨none, some 22, .mov (.t 21)⟩,
    ⟨some (22, true), some 23, .fld (.t 1) 3⟩,
    ⟨some (22, true), some 24, .ld (.t 23) none⟩,
    ⟨some (22, true), some 25, .fld (.t 1) 2⟩,
    ⟨some (22, true), some 26, .ld (.t 25) none⟩,
    ⟨some (22, true), some 27, .bin .sub (.c (.int .i64 64)) (.t 26)⟩,
    ⟨some (22, true), some 28, .call 33 [(.t 24), (.c (.int .i64 0)), (.t 27)]⟩,
    ⟨none, some 29, .pick (.t 22) (.t 28) (.c (.bool false))⟩,
    ⟨none, some 30, .mov (.t 29)⟩,
    ⟨some (30, true), some 31, .fld (.t 1) 4⟩,
    ⟨some (30, true), some 32, .ld (.t 31) none⟩,
    ⟨some (30, true), some 33, .call 33 [(.t 32), (.c (.int .i64 0)), (.c (.int .i64 64))]⟩,
    ⟨none, some 34, .pick (.t 30) (.t 33) (.c (.bool false))⟩,
    ⟨none, some 35, .mov (.t 34)⟩,
    ⟨some (35, true), some 36, .fld (.t 1) 5⟩,
    ⟨some (35, true), some 37, .ld (.t 36) none⟩,
    ⟨some (35, true), some 38, .call 33 [(.t 37), (.c (.int .i64 0)), (.c (.int .i64 64))]⟩,
    ⟨none, some 39, .pick (.t 35) (.t 38) (.c (.bool false))⟩,
    ⟨none, some 40, .mov (.t 39)⟩,
    ⟨some (40, true), some 41, .fld (.t 1) 6⟩,
    ⟨some (40, true), some 42, .ld (.t 41) none⟩,
    ⟨some (40, true), some 43, .call 33 [(.t 42), (.c (.int .i64 0)), (.c (.int .i64 1024))]⟩,
    ⟨none, some 44, .pick (.t 40) (.t 43) (.c (.bool false))⟩,
    ⟨none, some 2, .asg (.t 44)⟩])
 (.ret))
theorem ref12_May.k : chkFn Go.Proofs.Try.prog 20 45 [.tmp 2] ref12_May.c = true := by kernel_rfl

/-- conclave/conclaveref12.within: function 33; parameters: int, int, int; results: bool -/
def ref12_within.c : ACode :=
 .seq (.region [⟨none, some 6, .asg (.c (.bool false))⟩])
 (.seq (.region [⟨none, some 7, .mov (.t 0)⟩,
    ⟨none, some 8, .mov (.t 1)⟩,
    ⟨none, some 9, .bin .geq (.t 7) (.t 8)⟩,
    ⟨none, some 10, .mov (.t 9)⟩,
    ⟨some (10, true), some 11, .mov (.t 0)⟩,
    ⟨some (10, true), some 12, .mov (.t 2)⟩,
    ⟨some (10, true), some 13, .bin .leq (.t 11) (.t 12)⟩,
    ⟨none, some 14, .pick (.t 10) (.t 13) (.c (.bool false))⟩,
    ⟨none, some 6, .asg (.t 14)⟩])
 (.ret))
theorem ref12_within.k : chkFn Go.Proofs.Try.prog 33 15 [.tmp 6] ref12_within.c = true := by kernel_rfl

/-- conclave/conclaveref18.MayReply: function 12; parameters: api.Plan, int, api.Reply; results: bool -/
def ref18_MayReply.c : ACode :=
 .seq (.region [⟨none, some 3, .box (.t 0)⟩,
    ⟨none, some 5, .box (.t 2)⟩,
    ⟨none, some 6, .asg (.c (.bool false))⟩])
 (.seq (.region [⟨none, some 7, .ld (.t 3) (some 8)⟩,
    ⟨none, some 8, .call 20 [(.t 7)]⟩,
    ⟨none, some 9, .mov (.t 8)⟩,
    ⟨some (9, true), some 10, .mov (.t 1)⟩,
    ⟨some (9, true), some 11, .bin .geq (.t 10) (.c (.int .i64 0))⟩,
    ⟨none, some 12, .pick (.t 9) (.t 11) (.c (.bool false))⟩,
    ⟨none, some 13, .mov (.t 12)⟩,
    ⟨some (13, true), some 14, .mov (.t 1)⟩,
    ⟨some (13, true), some 15, .bin .leq (.t 14) (.c (.int .i64 64))⟩,
    ⟨none, some 16, .pick (.t 13) (.t 15) (.c (.bool false))⟩,
    ⟨none, some 17, .mov (.t 16)⟩,
    ⟨some (17, true), some 18, .fld (.t 5) 0⟩,
    ⟨some (17, true), some 19, .ld (.t 18) none⟩,
    ⟨some (17, true), some 20, .bin .geq (.t 19) (.c (.int .i64 0))⟩,
    ⟨none, some 21, .pick (.t 17) (.t 20) (.c (.bool false))⟩,
    ⟨none, some 22, .mov (.t 21)⟩,
    ⟨some (22, true), some 23, .fld (.t 5) 0⟩,
    ⟨some (22, true), some 24, .ld (.t 23) none⟩,
    ⟨some (22, true), some 25, .fld (.t 3) 1⟩,
    ⟨some (22, true), some 26, .ld (.t 25) none⟩,
    ⟨some (22, true), some 27, .bin .lss (.t 24) (.t 26)⟩,
    ⟨none, some 28, .pick (.t 22) (.t 27) (.c (.bool false))⟩,
    ⟨none, some 29, .mov (.t 28)⟩,
    ⟨some (29, true), some 30, .fld (.t 5) 1⟩,
    ⟨some (29, true), some 31, .ld (.t 30) none⟩,
    ⟨some (29, true), some 32, .len false (.t 31)⟩,
    ⟨some (29, true), some 33, .mov (.t 1)⟩,
    ⟨some (29, true), some 34, .bin .eql (.t 32) (.t 33)⟩,
    ⟨none, some 35, .pick (.t 29) (.t 34) (.c (.bool false))⟩,
    ⟨none, some 36, .mov (.t 35)⟩,
    ⟨some (36, true), some 37, .fld (.t 3) 0⟩,
    ⟨some (36, true), some 38, .ld (.t 37) none⟩,
    ⟨some (36, true), some 39, .fld (.t 5) 1⟩,
    ⟨some (36, true), some 40, .ld (.t 39) none⟩,
    ⟨some (36, true), some 41, .call 21 [(.t 38), (.t 40)]⟩,
    ⟨none, some 42, .pick (.t 36) (.t 41) (.c (.bool false))⟩,
    ⟨none, some 6, .asg (.t 42)⟩])
 (.ret))
theorem ref18_MayReply.k : chkFn Go.Proofs.Try.prog 12 43 [.tmp 6] ref18_MayReply.c = true := by kernel_rfl

end Go.Proofs.Ytilhkgfhhkkolaa.C
