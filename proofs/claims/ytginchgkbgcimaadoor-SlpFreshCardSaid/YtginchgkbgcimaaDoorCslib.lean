import Derived.Test.YtginchgkbgcimaaDoorAdef
import Derived.Test.YtginchgkbgcimaaDoorProg
import Derived.KernelRfl
namespace Go.Proofs.YtginchgkbgcimaaDoor.C
open Go Go.RowKit Go.Proofs.YtginchgkbgcimaaDoor.AL

/-- (*strings.Builder).WriteString: function 22; parameters: *strings.Builder, string; results: int, error -/
def strings_Builder_WriteString.c : ACode :=
 .seq (.region [⟨none, some 4, .asg (.c (.int .i64 0))⟩,
    ⟨none, some 5, .asg (.c (.lit .nilIface))⟩])
 (.seq (.region [⟨none, some 6, .mov (.t 0)⟩,
    ⟨none, some 7, .call 45 [(.t 6)]⟩])
 (.seq (.region [⟨none, some 8, .mov (.t 0)⟩,
    ⟨none, some 9, .mov (.t 0)⟩,
    ⟨none, some 10, .nilchk (.t 9)⟩,
    ⟨none, some 11, .fld (.t 10) 1⟩,
    ⟨none, some 12, .ld (.t 11) none⟩,
    ⟨none, some 13, .mov (.t 1)⟩,
    ⟨none, some 14, .appT (.t 12) (.t 13) 1 1 6291457⟩,
    ⟨none, some 15, .nilchk (.t 8)⟩,
    ⟨none, some 16, .fld (.t 15) 1⟩,
    ⟨none, none, .st (.t 16) (.t 14) 1⟩])
 (.seq (.region [⟨none, some 17, .mov (.t 1)⟩,
    ⟨none, some 18, .len true (.t 17)⟩,
    ⟨none, some 4, .asg (.t 18)⟩,
    ⟨none, some 5, .asg (.c (.lit .nilIface))⟩])
 (.ret))))
theorem strings_Builder_WriteString.k : chkFn Go.Proofs.Tryd.prog 22 19 [.tmp 4, .tmp 5] strings_Builder_WriteString.c = true := by kernel_rfl

/-- (*strings.Builder).copyCheck: function 45; parameters: *strings.Builder; results:  -/
def strings_Builder_copyCheck.c : ACode :=
 .seq (.region [⟨none, some 2, .mov (.t 0)⟩,
    ⟨none, some 3, .nilchk (.t 2)⟩,
    ⟨none, some 4, .fld (.t 3) 0⟩,
    ⟨none, some 5, .ld (.t 4) none⟩,
    ⟨none, some 6, .eq .ptr false (.t 5) (.c (.lit (.pointer none)))⟩])
 (.cond (.t 6) (.region [⟨none, some 7, .mov (.t 0)⟩,
    ⟨none, some 8, .mov (.t 0)⟩,
    ⟨none, some 9, .tun (.t 8)⟩,
    ⟨none, some 10, .calx 56 [(.t 9)]⟩,
    ⟨none, some 11, .fun_ 51 2 (.t 10)⟩,
    ⟨none, some 12, .nilchk (.t 7)⟩,
    ⟨none, some 13, .fld (.t 12) 0⟩,
    ⟨none, none, .st (.t 13) (.t 11) 1⟩])
  (.seq (.region [⟨none, some 14, .mov (.t 0)⟩,
     ⟨none, some 15, .nilchk (.t 14)⟩,
     ⟨none, some 16, .fld (.t 15) 0⟩,
     ⟨none, some 17, .ld (.t 16) none⟩,
     ⟨none, some 18, .mov (.t 0)⟩,
     ⟨none, some 19, .eqp true (.t 17) (.t 18)⟩])
  (.cond (.t 19) (.bad)
   (.skip))))
theorem strings_Builder_copyCheck.k : chkFn Go.Proofs.Tryd.prog 45 20 [] strings_Builder_copyCheck.c = true := by kernel_rfl

/-- (*strings.Builder).String: function 28; parameters: *strings.Builder; results: string -/
def strings_Builder_String.c : ACode :=
 .seq (.region [⟨none, some 2, .asg (.c (.str ⟨#[]⟩))⟩])
 (.seq (.draw (.pure 0 (.pure 1 (.pure 2 (.pure 3 (.pure 5 (.pure 6 (.pure 7 (.pure 8 (.pure 9 (.alt 4 (.alt 10 (.alt 11 .nil .stop) .stop) .stop)))))))))) [(4, 3), (10, 3), (10, 8), (11, 3), (11, 8)] [⟨none, some 3, .mov (.t 0)⟩,
    ⟨none, some 4, .nilchk (.t 3)⟩,
    ⟨none, some 5, .fld (.t 4) 1⟩,
    ⟨none, some 6, .ld (.t 5) none⟩,
    ⟨none, some 7, .sdata (.t 6)⟩,
    ⟨none, some 8, .mov (.t 0)⟩,
    ⟨none, some 9, .nilchk (.t 8)⟩,
    ⟨none, some 10, .fld (.t 9) 1⟩,
    ⟨none, some 11, .ld (.t 10) none⟩,
    ⟨none, some 12, .len false (.t 11)⟩,
    ⟨none, some 13, .ustr 5 (.t 7) (.t 12)⟩,
    ⟨none, some 2, .asg (.t 13)⟩])
 (.ret))
theorem strings_Builder_String.k : chkFn Go.Proofs.Tryd.prog 28 14 [.tmp 2] strings_Builder_String.c = true := by kernel_rfl

/-- strconv.FormatUint: function 26; parameters: uint64, int; results: string -/
def strconv_FormatUint.c : ACode :=
 .seq (.region [⟨none, some 4, .asg (.c (.str ⟨#[]⟩))⟩])
 (.seq (.region [⟨none, some 5, .mov (.t 0)⟩,
    ⟨none, some 6, .mov (.t 1)⟩,
    ⟨none, some 7, .call 48 [(.t 5), (.t 6)]⟩,
    ⟨none, some 4, .asg (.t 7)⟩])
 (.ret))
theorem strconv_FormatUint.k : chkFn Go.Proofs.Tryd.prog 26 8 [.tmp 4] strconv_FormatUint.c = true := by kernel_rfl

/-- internal/strconv.FormatUint: function 48; parameters: uint64, int; results: string -/
def internal_strconv_FormatUint.c : ACode :=
 .seq (.region [⟨none, some 4, .asg (.c (.str ⟨#[]⟩))⟩])
 (.seq (.seq (.region [⟨none, some 9, .mov (.t 1)⟩,
     ⟨none, some 10, .bin .eql (.t 9) (.c (.int .i64 10))⟩])
  (.cond (.t 10) (.seq (.seq (.region [⟨none, some 11, .mov (.t 0)⟩,
       ⟨none, some 12, .bin .lss (.t 11) (.c (.int .u64 100))⟩])
    (.cond (.t 12) (.seq (.region [⟨none, some 13, .mov (.t 0)⟩,
        ⟨none, some 14, .conv .i64 (.t 13)⟩,
        ⟨none, some 15, .call 59 [(.t 14)]⟩,
        ⟨none, some 4, .asg (.t 15)⟩])
     (.ret))
     (.skip)))
   (.seq (.region [⟨none, some 5, .alloc (List.replicate 24 (.int .u8 0))⟩])
   (.seq (.region [⟨none, some 16, .mov (.t 0)⟩,
      ⟨none, some 17, .call 60 [(.t 16)]⟩,
      ⟨none, some 6, .asg (.t 17)⟩])
   (.seq (.region [⟨none, some 18, .mov (.t 6)⟩,
      ⟨none, some 19, .bad⟩,
      ⟨none, some 20, .mov (.t 0)⟩,
      ⟨none, some 21, .call 61 [(.t 19), (.t 20)]⟩])
   (.seq (.region [⟨none, some 22, .mov (.t 6)⟩,
      ⟨none, some 23, .bad⟩,
      ⟨none, some 24, .b2s (.t 23)⟩,
      ⟨none, some 4, .asg (.t 24)⟩])
   (.ret))))))
   (.skip)))
 (.seq (.region [⟨none, some 26, .mov (.t 0)⟩,
    ⟨none, some 27, .mov (.t 1)⟩,
    ⟨none, some 28, .call 62 [(.c (.lit (.slice none 0 0))), (.t 26), (.t 27), (.c (.bool false)), (.c (.bool false))]⟩,
    ⟨none, some 25, .mov (.t 28)⟩,
    ⟨none, some 29, .ext (.t 25) 0⟩,
    ⟨none, some 30, .ext (.t 25) 1⟩,
    ⟨none, some 7, .asg (.t 29)⟩,
    ⟨none, some 8, .asg (.t 30)⟩])
 (.seq (.region [⟨none, some 31, .mov (.t 8)⟩,
    ⟨none, some 4, .asg (.t 31)⟩])
 (.ret))))
theorem internal_strconv_FormatUint.k : chkFn Go.Proofs.Tryd.prog 48 32 [.tmp 4] internal_strconv_FormatUint.c = true := by kernel_rfl

/-- internal/strconv.small: function 59; parameters: int; results: string -/
def internal_strconv_small.c : ACode :=
 .seq (.region [⟨none, some 2, .asg (.c (.str ⟨#[]⟩))⟩])
 (.seq (.seq (.region [⟨none, some 3, .mov (.t 0)⟩,
     ⟨none, some 4, .bin .lss (.t 3) (.c (.int .i64 10))⟩])
  (.cond (.t 4) (.seq (.region [⟨none, some 5, .mov (.t 0)⟩,
      ⟨none, some 6, .mov (.t 0)⟩,
      ⟨none, some 7, .bin .add (.t 6) (.c (.int .i64 1))⟩,
      ⟨none, some 8, .scut (.c (.str ⟨#[48, 49, 50, 51, 52, 53, 54, 55, 56, 57, 97, 98, 99, 100, 101, 102, 103, 104, 105, 106, 107, 108, 109, 110, 111, 112, 113, 114, 115, 116, 117, 118, 119, 120, 121, 122]⟩)) (some (.t 5)) (some (.t 7))⟩,
      ⟨none, some 2, .asg (.t 8)⟩])
   (.ret))
   (.skip)))
 (.seq (.region [⟨none, some 9, .mov (.t 0)⟩,
    ⟨none, some 10, .bin .mul (.t 9) (.c (.int .i64 2))⟩,
    ⟨none, some 11, .mov (.t 0)⟩,
    ⟨none, some 12, .bin .mul (.t 11) (.c (.int .i64 2))⟩,
    ⟨none, some 13, .bin .add (.t 12) (.c (.int .i64 2))⟩,
    ⟨none, some 14, .bad⟩,
    ⟨none, some 2, .asg (.t 14)⟩])
 (.ret)))
theorem internal_strconv_small.k : chkFn Go.Proofs.Tryd.prog 59 15 [.tmp 2] internal_strconv_small.c = true := by kernel_rfl

/-- conclave/slp.sign: function 27; parameters: api.OpKind; results: string -/
def slp_sign.c : ACode :=
 .seq (.region [⟨none, some 2, .asg (.c (.str ⟨#[]⟩))⟩])
 (.seq (.region [⟨none, some 3, .build [.str ByteArray.empty, .str ByteArray.empty, .str ByteArray.empty, .str ByteArray.empty] [(1, 1, (.c (.str ⟨#[43]⟩))), (2, 1, (.c (.str ⟨#[45]⟩))), (3, 1, (.c (.str ⟨#[42]⟩)))]⟩,
    ⟨none, some 4, .mov (.t 0)⟩,
    ⟨none, some 5, .idxv (.t 3) (.t 4) 1 4 none⟩,
    ⟨none, some 2, .asg (.t 5)⟩])
 (.ret))
theorem slp_sign.k : chkFn Go.Proofs.Tryd.prog 27 6 [.tmp 2] slp_sign.c = true := by kernel_rfl

end Go.Proofs.YtginchgkbgcimaaDoor.C
