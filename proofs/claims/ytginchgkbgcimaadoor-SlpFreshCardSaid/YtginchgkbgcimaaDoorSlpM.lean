/- Straight-line programs: a text that is none, read; what the document fixes (anchored). -/
import Derived.Test.YtginchgkbgcimaaDoorSlpL
import Derived.Test.YtginchgkbgcimaaDoorCslpr
import Derived.Test.YtginchgkbgcimaaDoorAround
namespace Go.Proofs.YtginchgkbgcimaaDoor.C
open Go Go.RowKit Go.Proofs.YtginchgkbgcimaaDoor.AL
set_option maxRecDepth 100000
set_option maxHeartbeats 40000000
set_option linter.unusedVariables false
set_option linter.unusedSimpArgs false

set_option maxRecDepth 100000
theorem fmt.a : Pure prog 26 [.int .u64 1, .int .i64 10] (.str ⟨#[49]⟩) := by
  refine pure_of_vc strconv_FormatUint.k (by simp) ?_
  conv => whnf
  repeat' ((first | (with_reducible refine hid_mk ?_) | (with_reducible refine fin_inl ?_) | (with_reducible refine acalls_of_vc internal_strconv_FormatUint.k ?_) | (with_reducible refine acalls_of_vc internal_strconv_small.k ?_) | (refine fin_mk (by decide)) | (with_reducible refine wnum_i64 (by omega) ?_) | (with_reducible refine And.intro (fin_el ?_) ?_)) <;> (conv => whnf))
  exact fin_pure rfl (by simp)

set_option maxRecDepth 1000000 in
theorem read.q : Pure prog 11 [.str ⟨#[105, 110, 112, 117, 116, 115, 32, 48, 49, 10]⟩] (.tup [SProg.oV, .int .i64 1, .int .i64 90]) := by
  refine pure_of_vc slp_Read.k (by simp) ?_
  conv => whnf
  repeat' ((first | (with_reducible refine hid_mk ?_) | (with_reducible refine bcase_not ?_) | (with_reducible refine bcase_strT (by first | rfl | fail) ?_) | (with_reducible refine bcase_strF (by first | decide | fail) ?_) | (with_reducible refine both_mk rfl ?_) | (with_reducible refine fin_inl ?_) | (with_reducible refine fin_inlP ?_) | (with_reducible refine acalls_of_vc slp_lines.k ?_) | (with_reducible refine acalls_of_vc slp_lines_1.k ?_) | (with_reducible refine acalls_of_vc slp_need.k ?_) | (with_reducible refine acalls_of_vc slp_reader_head.k ?_) | (with_reducible refine acalls_of_vc slp_taker.k ?_) | (with_reducible refine acalls_of_vc slp_taker_1.k ?_) | (with_reducible refine acalls_of_vc slp_number.k ?_) | (with_reducible refine acalls_of_chkDef slp_reader_all.k ?_) | (refine ⟨_, _, rfl, by kernel_rfl, ?_⟩) | (with_reducible refine adef_of_chkRec slp_reader_all_1.k (by simp) ?_) | ((with_reducible refine pure_guard (cut.a) ?_); (refine Pure.useE (cut.a) (by rfl) ?_)) | ((with_reducible refine pure_guard (split.a) ?_); (refine Pure.useE (split.a) (by rfl) ?_)) | ((with_reducible refine pure_guard (parse.a) ?_); (refine Pure.useE (parse.a) (by rfl) ?_)) | ((with_reducible refine pure_guard (fmt.a) ?_); (refine Pure.useE (fmt.a) (by rfl) ?_)) | (refine ayld_of rfl rfl rfl ?_) | (with_reducible refine fin_inlE ?_) | (with_reducible refine fin_andR ?_) | (refine fin_mk (by decide)) | (with_reducible refine vloop_roll ?_) | (with_reducible refine wcut_conc ?_) | (with_reducible refine vblk_same ?_) | (with_reducible refine wnum_i64 (by omega) ?_) | (refine wfoc_lit (by decide) rfl ?_) | (with_reducible refine And.intro (by first | omega | (simp; done)) ?_) | (with_reducible refine And.intro (fin_el ?_) ?_)) <;> (conv => whnf))
  exact fin_pure rfl (by simp)

theorem square.q : Pure prog 38 [] sqV := by
  refine pure_of_vc law09_square.k (by simp) ?_
  conv => whnf
  repeat' ((first | (with_reducible refine hid_mk ?_)) <;> (conv => whnf))
  exact fin_rs [0, 1, 2] (Rs.aggL (.cons (.same _ (by simp)) (.cons (Rs.fsliceL (m := 4) (by simp) (.inl rfl) (by simp) (RsL.same (by simp))) (.cons (Rs.fsliceL (m := 1) (by simp) (.inl rfl) (by simp) (RsL.same (by simp))) .nil))))

theorem anchored.q : Pure prog 15 [] (.bool true) := by
  refine pure_of_vc law09_anchored.k (by simp) ?_
  conv => whnf
  repeat' ((first | (with_reducible refine hid_mk ?_) | (with_reducible refine bcase_strT (by first | rfl | fail) ?_) | (with_reducible refine Pure.use (square.q) ?_) | (with_reducible refine Pure.use (text.q) ?_) | (with_reducible refine Pure.use (read.q) ?_)) <;> (conv => whnf))
  exact fin_pure (by simp [ByteArray.toList_eq]) (by simp)

end Go.Proofs.YtginchgkbgcimaaDoor.C
