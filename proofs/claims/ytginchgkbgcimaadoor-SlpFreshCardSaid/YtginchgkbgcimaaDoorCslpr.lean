import Derived.Test.YtginchgkbgcimaaDoorAdef
import Derived.Test.YtginchgkbgcimaaDoorProg
import Derived.KernelRfl
namespace Go.Proofs.YtginchgkbgcimaaDoor.C
open Go Go.RowKit Go.Proofs.YtginchgkbgcimaaDoor.AL

def slp_reader_all.c0 : ACode :=
 .region [⟨none, some 2, .box (.t 0)⟩,
   ⟨none, some 4, .alloc [.bool false]⟩]
abbrev slp_reader_all.o : AOp := .mkfn (.func 50) [] [(.t 4)]
def slp_reader_all.A0 : ACode :=
 .seq (.region [⟨none, some 5, .asg (.t 10)⟩])
 (.region [⟨none, some 6, .asg (.t 11)⟩])
def slp_reader_all.B0 : ACode :=
 .block 1 (.seq (.region [⟨none, some 12, .ld (.t 2) none⟩,
     ⟨none, some 13, .nilchk (.t 12)⟩,
     ⟨none, some 14, .fld (.t 13) 3⟩,
     ⟨none, some 15, .ld (.t 14) none⟩,
     ⟨none, some 16, .bin .add (.t 15) (.c (.int .i64 1))⟩,
     ⟨none, some 17, .nilchk (.t 12)⟩,
     ⟨none, some 18, .fld (.t 17) 3⟩,
     ⟨none, none, .st (.t 18) (.t 16) 1⟩])
  (.seq (.seq (.region [⟨none, some 19, .ld (.t 2) none⟩,
      ⟨none, some 20, .nilchk (.t 19)⟩,
      ⟨none, some 21, .fld (.t 20) 4⟩,
      ⟨none, some 22, .ld (.t 21) none⟩,
      ⟨none, some 23, .mov (.t 22)⟩,
      ⟨some (23, true), some 24, .mov (.t 6)⟩,
      ⟨some (23, true), some 25, .not (.t 24)⟩,
      ⟨none, some 26, .pick (.t 23) (.t 25) (.c (.bool false))⟩,
      ⟨none, some 27, .mov (.t 26)⟩,
      ⟨some (27, true), some 28, .mov (.t 5)⟩,
      ⟨some (27, true), some 29, .bin .eql (.t 28) (.c (.str ⟨#[]⟩))⟩,
      ⟨none, some 30, .pick (.t 27) (.t 29) (.c (.bool false))⟩])
   (.cond (.t 30) (.exit 0)
    (.skip)))
  (.seq (.region [⟨none, some 31, .mov (.t 6)⟩,
     ⟨none, some 32, .mov (.t 31)⟩,
     ⟨some (32, true), some 33, .ld (.t 2) none⟩,
     ⟨some (32, true), some 34, .nilchk (.t 33)⟩,
     ⟨some (32, true), some 35, .fld (.t 34) 4⟩,
     ⟨some (32, true), some 36, .ld (.t 35) none⟩,
     ⟨some (32, true), some 37, .not (.t 36)⟩,
     ⟨none, some 38, .pick (.t 32) (.t 37) (.c (.bool false))⟩,
     ⟨none, some 39, .call 52 [(.t 38)]⟩])
  (.seq (.region [⟨none, some 40, .ld (.t 2) none⟩,
     ⟨none, some 41, .nilchk (.t 40)⟩,
     ⟨none, some 42, .fld (.t 41) 3⟩,
     ⟨none, some 43, .ld (.t 42) none⟩,
     ⟨none, some 44, .bin .eql (.t 43) (.c (.int .i64 1))⟩])
  (.cond (.t 44) (.region [⟨none, some 45, .ld (.t 2) none⟩,
     ⟨none, some 46, .mov (.t 5)⟩,
     ⟨none, some 47, .call 53 [(.t 45), (.t 46)]⟩])
   (.region [⟨none, some 48, .ld (.t 2) none⟩,
     ⟨none, some 49, .mov (.t 5)⟩,
     ⟨none, some 50, .call 54 [(.t 48), (.t 49)]⟩]))))))
def slp_reader_all.c : ACode :=
 .seq (.seq (.region [⟨none, some 8, .mov (.t 1)⟩,
     ⟨none, some 9, .call 51 [(.t 8)]⟩])
  (.block 0 (.rfor (.t 9) [10, 11] slp_reader_all.A0 slp_reader_all.B0)))
 (.seq (.region [⟨none, none, .st (.t 4) (.c (.bool true)) 1⟩])
 (.ret))
theorem slp_reader_all.k : chkDef Go.Proofs.Tryd.prog 31 51 [.cell 4 none] slp_reader_all.c0 7 slp_reader_all.o slp_reader_all.c = true := by kernel_rfl

def slp_reader_all_1.c : ACode :=
 .seq (.seq (.region [⟨none, some 5, .mov (.t 1)⟩,
     ⟨none, some 6, .eq .iface false (.t 5) (.c (.lit .nilIface))⟩])
  (.cond (.t 6) (.ret)
   (.skip)))
 (.seq (.seq (.region [⟨none, some 8, .mov (.t 1)⟩,
     ⟨none, some 9, .tas 88 [] (.t 8)⟩,
     ⟨none, some 7, .mov (.t 9)⟩,
     ⟨none, some 10, .ext (.t 7) 0⟩,
     ⟨none, some 11, .ext (.t 7) 1⟩,
     ⟨none, some 2, .alloc []⟩,
     ⟨none, none, .st (.t 2) (.t 10) 0⟩,
     ⟨none, some 3, .asg (.t 11)⟩])
  (.seq (.region [⟨none, some 12, .mov (.t 3)⟩,
     ⟨none, some 13, .not (.t 12)⟩])
  (.cond (.t 13) (.region [⟨none, some 14, .mov (.t 1)⟩,
     ⟨none, none, .pnc (.t 14)⟩])
   (.skip))))
 (.region [⟨none, none, .st (.t 0) (.c (.bool false)) 1⟩]))
theorem slp_reader_all_1.k : chkRec Go.Proofs.Tryd.prog 50 15 4 1 slp_reader_all_1.c = true := by kernel_rfl

/-- (*conclave/slp.reader).head: function 53; parameters: *slp.reader, string; results:  -/
def slp_reader_head.c : ACode :=
 .seq (.region [⟨none, some 7, .mov (.t 1)⟩,
    ⟨none, some 8, .call 65 [(.t 7)]⟩,
    ⟨none, some 6, .mov (.t 8)⟩,
    ⟨none, some 9, .ext (.t 6) 0⟩,
    ⟨none, some 10, .ext (.t 6) 1⟩,
    ⟨none, some 4, .asg (.t 9)⟩,
    ⟨none, some 5, .asg (.t 10)⟩])
 (.seq (.region [⟨none, some 11, .mov (.t 4)⟩,
    ⟨none, some 12, .callv (.t 11) []⟩,
    ⟨none, some 13, .bin .eql (.t 12) (.c (.str ⟨#[105, 110, 112, 117, 116, 115]⟩))⟩,
    ⟨none, some 14, .call 52 [(.t 13)]⟩])
 (.seq (.region [⟨none, some 15, .mov (.t 0)⟩,
    ⟨none, some 16, .mov (.t 4)⟩,
    ⟨none, some 17, .callv (.t 16) []⟩,
    ⟨none, some 18, .call 66 [(.t 17), (.c (.int .u64 64))]⟩,
    ⟨none, some 19, .conv .i64 (.t 18)⟩,
    ⟨none, some 20, .nilchk (.t 15)⟩,
    ⟨none, some 21, .fld (.t 20) 0⟩,
    ⟨none, some 22, .fld (.t 21) 0⟩,
    ⟨none, none, .st (.t 22) (.t 19) 1⟩])
 (.region [⟨none, some 23, .mov (.t 5)⟩,
   ⟨none, some 24, .callv (.t 23) []⟩,
   ⟨none, some 25, .not (.t 24)⟩,
   ⟨none, some 26, .call 52 [(.t 25)]⟩])))
theorem slp_reader_head.k : chkFn Go.Proofs.Tryd.prog 53 27 [] slp_reader_head.c = true := by kernel_rfl

end Go.Proofs.YtginchgkbgcimaaDoor.C
