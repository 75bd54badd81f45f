import Derived.Test.YtilhkgfhhkkolaaAdef
import Derived.Test.YtilhkgfhhkkolaaProg
import Derived.KernelRfl
namespace Go.Proofs.Ytilhkgfhhkkolaa.C
open Go Go.RowKit Go.Proofs.Ytilhkgfhhkkolaa.AL

/-- conclave/codec.Read: function 14; parameters: []uint8; results: api.Msg, api.Errno -/
def codec_Read.c : ACode :=
 .seq (.region [⟨none, some 2, .alloc [.int .u8 0, .int .i64 0, .int .i64 0, .int .u8 0, .lit (.slice none 0 0)]⟩,
    ⟨none, some 3, .asg (.c (.int .i64 0))⟩])
 (.seq (.region [⟨none, some 10, .mov (.t 0)⟩,
    ⟨none, some 11, .call 23 [(.t 10)]⟩,
    ⟨none, some 9, .mov (.t 11)⟩,
    ⟨none, some 12, .ext (.t 9) 0⟩,
    ⟨none, some 13, .ext (.t 9) 1⟩,
    ⟨none, some 14, .ext (.t 9) 2⟩,
    ⟨none, some 4, .asg (.t 12)⟩,
    ⟨none, some 5, .asg (.t 13)⟩,
    ⟨none, some 6, .asg (.t 14)⟩])
 (.seq (.seq (.region [⟨none, some 15, .mov (.t 6)⟩,
     ⟨none, some 16, .bin .neq (.t 15) (.c (.int .i64 0))⟩])
  (.cond (.t 16) (.seq (.region [⟨none, some 17, .build [.int .u8 0, .int .i64 0, .int .i64 0, .int .u8 0, .lit (.slice none 0 0)] []⟩,
      ⟨none, some 18, .mov (.t 6)⟩,
      ⟨none, none, .st (.t 2) (.t 17) 5⟩,
      ⟨none, some 3, .asg (.t 18)⟩])
   (.ret))
   (.skip)))
 (.seq (.region [⟨none, some 20, .mov (.t 4)⟩,
    ⟨none, some 21, .call 24 [(.t 20)]⟩,
    ⟨none, some 19, .mov (.t 21)⟩,
    ⟨none, some 22, .ext (.t 19) 0⟩,
    ⟨none, some 23, .ext (.t 19) 1⟩,
    ⟨none, some 7, .alloc [.int .u8 0, .int .i64 0, .int .i64 0, .int .u8 0, .lit (.slice none 0 0)]⟩,
    ⟨none, none, .st (.t 7) (.t 22) 5⟩,
    ⟨none, some 8, .asg (.t 23)⟩])
 (.seq (.seq (.region [⟨none, some 24, .mov (.t 8)⟩,
     ⟨none, some 25, .not (.t 24)⟩,
     ⟨none, some 26, .mov (.t 25)⟩,
     ⟨some (26, false), some 27, .mov (.t 5)⟩,
     ⟨some (26, false), some 28, .mov (.t 0)⟩,
     ⟨some (26, false), some 29, .len false (.t 28)⟩,
     ⟨some (26, false), some 30, .bin .lss (.t 27) (.t 29)⟩,
     ⟨none, some 31, .pick (.t 26) (.c (.bool true)) (.t 30)⟩])
  (.cond (.t 31) (.seq (.region [⟨none, some 32, .build [.int .u8 0, .int .i64 0, .int .i64 0, .int .u8 0, .lit (.slice none 0 0)] []⟩,
      ⟨none, none, .st (.t 2) (.t 32) 5⟩,
      ⟨none, some 3, .asg (.c (.int .i64 8))⟩])
   (.ret))
   (.skip)))
 (.seq (.region [⟨none, some 33, .ld (.t 7) (some 5)⟩,
    ⟨none, none, .st (.t 2) (.t 33) 5⟩,
    ⟨none, some 3, .asg (.c (.int .i64 0))⟩])
 (.ret))))))
theorem codec_Read.k : chkFn Go.Proofs.Try.prog 14 34 [.cell 2 (some 5), .tmp 3] codec_Read.c = true := by kernel_rfl

def codec_parts.c0 : ACode :=
 .region [⟨none, some 1, .box (.t 0)⟩,
   ⟨none, some 2, .alloc [.int .u8 0, .int .i64 0, .int .i64 0, .int .u8 0, .lit (.slice none 0 0)]⟩,
   ⟨none, some 3, .alloc [.bool false]⟩]
abbrev codec_parts.o : AOp := .mkfn (.func 39) [] [(.t 2), (.t 3)]
def codec_parts.c : ACode :=
 .seq (.region [⟨none, some 7, .mkfn (.func 40) [] [(.t 1)]⟩,
    ⟨none, some 4, .alloc [.lit .nilFunc]⟩,
    ⟨none, none, .st (.t 4) (.t 7) 1⟩])
 (.seq (.region [⟨none, some 8, .mkfn (.func 42) [] [(.t 4)]⟩,
    ⟨none, some 5, .asg (.t 8)⟩])
 (.seq (.region [⟨none, some 9, .ld (.t 1) none⟩,
    ⟨none, some 10, .len false (.t 9)⟩,
    ⟨none, some 11, .bin .gtr (.t 10) (.c (.int .i64 0))⟩,
    ⟨none, some 12, .call 41 [(.t 11)]⟩])
 (.seq (.region [⟨none, some 13, .ld (.t 1) none⟩,
    ⟨none, some 14, .idx (.t 13) (.c (.int .i64 0)) 1⟩,
    ⟨none, some 15, .ld (.t 14) none⟩,
    ⟨none, some 16, .fld (.t 2) 0⟩,
    ⟨none, none, .st (.t 16) (.t 15) 1⟩])
 (.seq (.region [⟨none, some 17, .ld (.t 1) none⟩,
    ⟨none, some 18, .slc (.t 17) (some (.c (.int .i64 1))) none none 1⟩,
    ⟨none, none, .st (.t 1) (.t 18) 1⟩])
 (.seq (.region [⟨none, some 19, .mov (.t 5)⟩,
    ⟨none, some 20, .fld (.t 2) 1⟩,
    ⟨none, some 21, .callv (.t 19) [(.t 20)]⟩])
 (.seq (.region [⟨none, some 22, .mov (.t 5)⟩,
    ⟨none, some 23, .fld (.t 2) 2⟩,
    ⟨none, some 24, .callv (.t 22) [(.t 23)]⟩])
 (.seq (.region [⟨none, some 25, .ld (.t 4) none⟩,
    ⟨none, some 26, .mkfn (.func 44) [] [(.t 2)]⟩,
    ⟨none, some 27, .callv (.t 25) [(.t 26)]⟩])
 (.seq (.region [⟨none, some 28, .ld (.t 1) none⟩,
    ⟨none, some 29, .len false (.t 28)⟩,
    ⟨none, some 30, .bin .eql (.t 29) (.c (.int .i64 0))⟩,
    ⟨none, some 31, .mov (.t 30)⟩,
    ⟨some (31, true), some 32, .ld (.t 2) (some 5)⟩,
    ⟨some (31, true), some 33, .call 46 [(.t 32)]⟩,
    ⟨none, some 34, .pick (.t 31) (.t 33) (.c (.bool false))⟩,
    ⟨none, some 35, .call 41 [(.t 34)]⟩])
 (.seq (.region [⟨none, some 36, .ld (.t 2) (some 5)⟩,
    ⟨none, none, .st (.t 2) (.t 36) 5⟩,
    ⟨none, none, .st (.t 3) (.c (.bool true)) 1⟩])
 (.ret))))))))))
theorem codec_parts.k : chkDef Go.Proofs.Try.prog 24 37 [.cell 2 (some 5), .cell 3 none] codec_parts.c0 6 codec_parts.o codec_parts.c = true := by kernel_rfl

def codec_parts_1.c : ACode :=
 .seq (.seq (.region [⟨none, some 6, .mov (.t 2)⟩,
     ⟨none, some 7, .eq .iface false (.t 6) (.c (.lit .nilIface))⟩])
  (.cond (.t 7) (.ret)
   (.skip)))
 (.seq (.seq (.region [⟨none, some 9, .mov (.t 2)⟩,
     ⟨none, some 10, .tas 85 [] (.t 9)⟩,
     ⟨none, some 8, .mov (.t 10)⟩,
     ⟨none, some 11, .ext (.t 8) 0⟩,
     ⟨none, some 12, .ext (.t 8) 1⟩,
     ⟨none, some 3, .alloc []⟩,
     ⟨none, none, .st (.t 3) (.t 11) 0⟩,
     ⟨none, some 4, .asg (.t 12)⟩])
  (.seq (.region [⟨none, some 13, .mov (.t 4)⟩,
     ⟨none, some 14, .not (.t 13)⟩])
  (.cond (.t 14) (.region [⟨none, some 15, .mov (.t 2)⟩,
     ⟨none, none, .pnc (.t 15)⟩])
   (.skip))))
 (.region [⟨none, some 16, .build [.int .u8 0, .int .i64 0, .int .i64 0, .int .u8 0, .lit (.slice none 0 0)] []⟩,
   ⟨none, none, .st (.t 0) (.t 16) 5⟩,
   ⟨none, none, .st (.t 1) (.c (.bool false)) 1⟩]))
theorem codec_parts_1.k : chkRec Go.Proofs.Try.prog 39 17 5 2 codec_parts_1.c = true := by kernel_rfl

/-- conclave/codec.parts$2: function 40; parameters: func([]uint8) (int, api.Errno); results:  -/
def codec_parts_2.c : ACode :=
 .seq (.region [⟨none, some 6, .mov (.t 0)⟩,
    ⟨none, some 7, .ld (.t 1) none⟩,
    ⟨none, some 8, .callv (.t 6) [(.t 7)]⟩,
    ⟨none, some 5, .mov (.t 8)⟩,
    ⟨none, some 9, .ext (.t 5) 0⟩,
    ⟨none, some 10, .ext (.t 5) 1⟩,
    ⟨none, some 3, .asg (.t 9)⟩,
    ⟨none, some 4, .asg (.t 10)⟩])
 (.seq (.region [⟨none, some 11, .mov (.t 4)⟩,
    ⟨none, some 12, .bin .eql (.t 11) (.c (.int .i64 0))⟩,
    ⟨none, some 13, .call 41 [(.t 12)]⟩])
 (.region [⟨none, some 14, .ld (.t 1) none⟩,
   ⟨none, some 15, .mov (.t 3)⟩,
   ⟨none, some 16, .slc (.t 14) (some (.t 15)) none none 1⟩,
   ⟨none, none, .st (.t 1) (.t 16) 1⟩]))
theorem codec_parts_2.k : chkFn Go.Proofs.Try.prog 40 17 [] codec_parts_2.c = true := by kernel_rfl

/-- conclave/codec.need: function 41; parameters: bool; results:  -/
def codec_need.c : ACode :=
 .seq (.region [⟨none, some 2, .mov (.t 0)⟩,
    ⟨none, some 3, .not (.t 2)⟩])
 (.cond (.t 3) (.region [⟨none, some 4, .build [] []⟩,
    ⟨none, some 5, .mkif 85 (.t 4)⟩,
    ⟨none, none, .pnc (.t 5)⟩])
  (.skip))
theorem codec_need.k : chkFn Go.Proofs.Try.prog 41 6 [] codec_need.c = true := by kernel_rfl

/-- conclave/codec.parts$3: function 42; parameters: *int; results:  -/
def codec_parts_3.c : ACode :=
 .seq (.region [⟨none, some 2, .box (.t 0)⟩])
 (.region [⟨none, some 3, .ld (.t 1) none⟩,
   ⟨none, some 4, .mkfn (.func 43) [] [(.t 2)]⟩,
   ⟨none, some 5, .callv (.t 3) [(.t 4)]⟩])
theorem codec_parts_3.k : chkFn Go.Proofs.Try.prog 42 6 [] codec_parts_3.c = true := by kernel_rfl

/-- conclave/codec.parts$3$1: function 43; parameters: []uint8; results: int, api.Errno -/
def codec_parts_3_1.c : ACode :=
 .seq (.region [⟨none, some 3, .asg (.c (.int .i64 0))⟩,
    ⟨none, some 4, .asg (.c (.int .i64 0))⟩])
 (.seq (.draw (.pure 0 (.pure 1 (.alt 2 (.pure 3 (.pure 4 (.pure 5 (.pure 6 (.pure 7 (.alt 8 (.alt 9 (.alt 10 .nil .stop) .stop) .stop)))))) .stop))) [(8, 0), (9, 0), (10, 0)] [⟨none, some 6, .ld (.t 1) none⟩,
    ⟨none, some 7, .mov (.t 0)⟩,
    ⟨none, some 8, .call 36 [(.t 7)]⟩,
    ⟨none, some 5, .mov (.t 8)⟩,
    ⟨none, some 9, .ext (.t 5) 0⟩,
    ⟨none, some 10, .ext (.t 5) 1⟩,
    ⟨none, some 11, .ext (.t 5) 2⟩,
    ⟨none, some 12, .nilchk (.t 6)⟩,
    ⟨none, none, .st (.t 12) (.t 9) 1⟩,
    ⟨none, some 3, .asg (.t 10)⟩,
    ⟨none, some 4, .asg (.t 11)⟩])
 (.seq (.region [⟨none, some 13, .mov (.t 3)⟩,
    ⟨none, some 14, .mov (.t 4)⟩,
    ⟨none, some 3, .asg (.t 13)⟩,
    ⟨none, some 4, .asg (.t 14)⟩])
 (.ret)))
theorem codec_parts_3_1.k : chkFn Go.Proofs.Try.prog 43 15 [.tmp 3, .tmp 4] codec_parts_3_1.c = true := by kernel_rfl

/-- conclave/codec.parts$4: function 44; parameters: []uint8; results: int, api.Errno -/
def codec_parts_4.c : ACode :=
 .seq (.region [⟨none, some 3, .asg (.c (.int .i64 0))⟩,
    ⟨none, some 4, .asg (.c (.int .i64 0))⟩])
 (.seq (.region [⟨none, some 6, .mov (.t 0)⟩,
    ⟨none, some 7, .call 45 [(.t 6)]⟩,
    ⟨none, some 5, .mov (.t 7)⟩,
    ⟨none, some 8, .ext (.t 5) 0⟩,
    ⟨none, some 9, .ext (.t 5) 1⟩,
    ⟨none, some 10, .ext (.t 5) 2⟩,
    ⟨none, some 11, .ext (.t 5) 3⟩,
    ⟨none, some 12, .fld (.t 1) 3⟩,
    ⟨none, none, .st (.t 12) (.t 8) 1⟩,
    ⟨none, some 13, .fld (.t 1) 4⟩,
    ⟨none, none, .st (.t 13) (.t 9) 1⟩,
    ⟨none, some 3, .asg (.t 10)⟩,
    ⟨none, some 4, .asg (.t 11)⟩])
 (.seq (.region [⟨none, some 14, .mov (.t 3)⟩,
    ⟨none, some 15, .mov (.t 4)⟩,
    ⟨none, some 3, .asg (.t 14)⟩,
    ⟨none, some 4, .asg (.t 15)⟩])
 (.ret)))
theorem codec_parts_4.k : chkFn Go.Proofs.Try.prog 44 16 [.tmp 3, .tmp 4] codec_parts_4.c = true := by kernel_rfl

/-- conclave/codec.May: function 46; parameters: api.Msg; results: bool -/
def codec_May.c : ACode :=
 .seq (.region [⟨none, some 1, .box (.t 0)⟩,
    ⟨none, some 2, .asg (.c (.bool false))⟩])
 (.seq (.region [⟨none, some 3, .fld (.t 1) 0⟩,
    ⟨none, some 4, .ld (.t 3) none⟩,
    ⟨none, some 5, .bin .eql (.t 4) (.c (.int .u8 1))⟩,
    ⟨none, some 6, .mov (.t 5)⟩,
    ⟨some (6, false), some 7, .fld (.t 1) 0⟩,
    ⟨some (6, false), some 8, .ld (.t 7) none⟩,
    ⟨some (6, false), some 9, .bin .eql (.t 8) (.c (.int .u8 2))⟩,
    ⟨none, some 10, .pick (.t 6) (.c (.bool true)) (.t 9)⟩,
    ⟨none, some 11, .mov (.t 10)⟩,
    ⟨some (11, true), some 12, .fld (.t 1) 1⟩,
    ⟨some (11, true), some 13, .ld (.t 12) none⟩,
    ⟨some (11, true), some 14, .bin .geq (.t 13) (.c (.int .i64 0))⟩,
    ⟨none, some 15, .pick (.t 11) (.t 14) (.c (.bool false))⟩,
    ⟨none, some 16, .mov (.t 15)⟩,
    ⟨some (16, true), some 17, .fld (.t 1) 1⟩,
    ⟨some (16, true), some 18, .ld (.t 17) none⟩,
    ⟨some (16, true), some 19, .bin .lss (.t 18) (.c (.int .i64 65536))⟩,
    ⟨none, some 20, .pick (.t 16) (.t 19) (.c (.bool false))⟩,
    ⟨none, some 21, .mov (.t 20)⟩,
    ⟨some (21, true), some 22, .fld (.t 1) 2⟩,
    ⟨some (21, true), some 23, .ld (.t 22) none⟩,
    ⟨some (21, true), some 24, .bin .geq (.t 23) (.c (.int .i64 0))⟩,
    ⟨none, some 25, .pick (.t 21) (.t 24) (.c (.bool false))⟩,
    ⟨none, some 26, .mov (.t 25)⟩,
    ⟨some (26, true), some 27, .fld (.t 1) 2⟩,
    ⟨some (26, true), some 28, .ld (.t 27) none⟩,
    ⟨some (26, true), some 29, .bin .lss (.t 28) (.c (.int .i64 64))⟩,
    ⟨none, some 30, .pick (.t 26) (.t 29) (.c (.bool false))⟩,
    ⟨none, some 31, .mov (.t 30)⟩,
    ⟨some (31, true), some 32, .fld (.t 1) 4⟩,
    ⟨some (31, true), some 33, .ld (.t 32) none⟩,
    ⟨some (31, true), some 34, .len false (.t 33)⟩,
    ⟨some (31, true), some 35, .bin .leq (.t 34) (.c (.int .i64 64))⟩,
    ⟨none, some 36, .pick (.t 31) (.t 35) (.c (.bool false))⟩,
    ⟨none, some 37, .mov (.t 36)⟩,
    ⟨some (37, true), some 38, .fld (.t 1) 3⟩,
    ⟨some (37, true), some 39, .ld (.t 38) none⟩,
    ⟨some (37, true), some 40, .fld (.t 1) 4⟩,
    ⟨some (37, true), some 41, .ld (.t 40) none⟩,
    ⟨some (37, true), some 42, .call 52 [(.t 39), (.t 41)]⟩,
    ⟨none, some 43, .pick (.t 37) (.t 42) (.c (.bool false))⟩,
    ⟨none, some 2, .asg (.t 43)⟩])
 (.ret))
theorem codec_May.k : chkFn Go.Proofs.Try.prog 46 44 [.tmp 2] codec_May.c = true := by kernel_rfl

end Go.Proofs.Ytilhkgfhhkkolaa.C
