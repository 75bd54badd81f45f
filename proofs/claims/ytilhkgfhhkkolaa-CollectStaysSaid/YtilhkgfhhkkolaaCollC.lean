/- Package collect: the document's Well. -/
import Derived.Test.YtilhkgfhhkkolaaCollB
namespace Go.Proofs.Ytilhkgfhhkkolaa.C
open Go Go.RowKit Go.Proofs.Ytilhkgfhhkkolaa.AL
set_option maxRecDepth 100000
set_option maxHeartbeats 40000000
set_option linter.unusedVariables false
set_option linter.unusedSimpArgs false

set_option maxRecDepth 1000000
theorem ref25_Well.b (p : Pl) (outs round fr : Int) (bs : List UInt8) (hf : p.Fok) (hno : ¬ cMay p outs round) : Pure prog 6 [p.v, .int .i64 outs, .int .i64 round, .int .i64 fr, u8s bs] (.tup [rNone, .int .i64 2]) := by
  unfold cMay at hno
  have hM := ref12_May.a p hf
  refine pure_of_vc ref25_Well.k (by simp) ?_
  conv => whnf
  repeat' ((first | (with_reducible refine hid_mk ?_) | (with_reducible refine bcase_not ?_) | (with_reducible refine bcase_dec (fun hb => ?_) (fun hb => ?_)) | (with_reducible refine bcase_mk (fun hb => ?_) (fun hb => ?_)) | (with_reducible refine fin_inl ?_) | (with_reducible refine acalls_of_vc ref25_bad.k ?_) | (with_reducible refine Pure.use (hM) ?_)) <;> (conv => whnf))
  all_goals first | exact fin_pure rfl (by simp; done) | exact absurd ⟨by assumption, ⟨by omega, by omega⟩, by omega, by omega⟩ hno
theorem ref25_Well.s (p : Pl) (outs round fr : Int) (bs : List UInt8) (hf : p.Fok) (hfr : -9223372036854775808 < fr ∧ fr ≤ 9223372036854775807) (hbs : bs.length ≤ 140737488351232) (hc : cMay p outs round) (hw : WOk p outs round fr bs) : Pure prog 6 [p.v, .int .i64 outs, .int .i64 round, .int .i64 fr, u8s bs] (.tup [.agg [.int .i64 (mW (unI bs)), u64s (rlL (mL (unI bs)))], .int .i64 0]) := by
  obtain ⟨h1, h2, h3⟩ := hc
  obtain ⟨w1, w2, w3, w4, w5, w6, w7⟩ := hw
  have hM := ref12_May.a p hf
  have hn := (Pl.may_iff.1 h1).2.1
  have hR := ref20_Read.s bs hbs w1
  have hll := rlL_length (mL (unI bs))
  refine pure_of_vc ref25_Well.k (by simp) ?_
  conv => whnf
  repeat' ((first | (with_reducible refine hid_mk ?_) | (with_reducible refine bcase_not ?_) | (with_reducible refine bcase_true (by with_reducible assumption) ?_) | (with_reducible refine bcase_df (by omega) ?_) | (with_reducible refine bcase_nf (by omega) ?_) | (with_reducible refine fin_inl ?_) | (with_reducible refine acalls_of_vc ref25_bad.k ?_) | (with_reducible refine Pure.use (hM) ?_) | ((with_reducible refine pure_guard (hR) ?_); (refine Pure.use0 (hR) (by (first | ((repeat (first | with_reducible exact RsL.nil | refine RsL.cons (Rs.eq rfl (by first | exact idLt_mapI (by intro a; simp))) ?_)); done) | fail)) ?_)) | (with_reducible refine wnum_i64 (by omega) ?_)) <;> (conv => whnf))
  all_goals exact fin_pure rfl (by simp)
theorem ref25_Well.f (p : Pl) (outs round fr : Int) (bs : List UInt8) (hf : p.Fok) (hfr : -9223372036854775808 < fr ∧ fr ≤ 9223372036854775807) (hbs : bs.length ≤ 140737488351232) (hc : cMay p outs round) (hno : ¬ WOk p outs round fr bs) : Pure prog 6 [p.v, .int .i64 outs, .int .i64 round, .int .i64 fr, u8s bs] (.tup [rNone, .int .i64 8]) := by
  obtain ⟨h1, h2, h3⟩ := hc
  have hM := ref12_May.a p hf
  have hn := (Pl.may_iff.1 h1).2.1
  have hll := rlL_length (mL (unI bs))
  by_cases w1 : ROk bs
  · have hR := ref20_Read.s bs hbs w1
    refine pure_of_vc ref25_Well.k (by simp) ?_
    conv => whnf
    repeat' ((first | (with_reducible refine hid_mk ?_) | (with_reducible refine bcase_not ?_) | (with_reducible refine bcase_true (by with_reducible assumption) ?_) | (with_reducible refine bcase_df (by omega) ?_) | (with_reducible refine bcase_dec (fun hb => ?_) (fun hb => ?_)) | (with_reducible refine bcase_bne (fun hb => ?_) (fun hb => ?_)) | (with_reducible refine fin_inl ?_) | (with_reducible refine acalls_of_vc ref25_bad.k ?_) | (with_reducible refine Pure.use (hM) ?_) | ((with_reducible refine pure_guard (hR) ?_); (refine Pure.use0 (hR) (by (first | ((repeat (first | with_reducible exact RsL.nil | refine RsL.cons (Rs.eq rfl (by first | exact idLt_mapI (by intro a; simp))) ?_)); done) | fail)) ?_)) | (with_reducible refine wnum_i64 (by omega) ?_)) <;> (conv => whnf))
    all_goals first | exact fin_pure rfl (by simp; done) | exact absurd ⟨w1, by omega, by omega, by omega, by omega, by omega, by omega⟩ hno
  · have hR := ref20_Read.f bs hbs w1
    have he : rdE bs ≠ 0 := by unfold rdE; split <;> first | decide | assumption
    generalize rdE bs = E at hR he
    refine pure_of_vc ref25_Well.k (by simp) ?_
    conv => whnf
    repeat' ((first | (with_reducible refine hid_mk ?_) | (with_reducible refine bcase_not ?_) | (with_reducible refine bcase_true (by with_reducible assumption) ?_) | (with_reducible refine bcase_df (by omega) ?_) | (with_reducible refine bcase_nt (by omega) ?_) | (with_reducible refine fin_inl ?_) | (with_reducible refine acalls_of_vc ref25_bad.k ?_) | (with_reducible refine Pure.use (hM) ?_) | ((with_reducible refine pure_guard (hR) ?_); (refine Pure.use0 (hR) (by (first | ((repeat (first | with_reducible exact RsL.nil | refine RsL.cons (Rs.eq rfl (by first | exact idLt_mapI (by intro a; simp))) ?_)); done) | fail)) ?_))) <;> (conv => whnf))
    all_goals exact fin_pure rfl (by simp)
theorem ref25_Well.m (p : Pl) (outs round : Int) (bs : List UInt8) (hf : p.Fok) (hbs : bs.length ≤ 140737488351232) (hc : cMay p outs round) : Pure prog 6 [p.v, .int .i64 outs, .int .i64 round, .int .i64 (-9223372036854775808), u8s bs] (.tup [rNone, .int .i64 8]) := by
  obtain ⟨h1, h2, h3⟩ := hc
  have hM := ref12_May.a p hf
  have hwr : IntKind.i64.wrap (-9223372036854775808 - 1) = 9223372036854775807 := by decide
  have hw4 : mW (unI bs) < 4294967296 := numL_lt4
  by_cases w1 : ROk bs
  · have hR := ref20_Read.s bs hbs w1
    refine pure_of_vc ref25_Well.k (by simp) ?_
    conv => whnf
    repeat' ((first | (with_reducible refine hid_mk ?_) | (with_reducible refine bcase_not ?_) | (with_reducible refine bcase_true (by with_reducible assumption) ?_) | (with_reducible refine bcase_df (by omega) ?_) | (with_reducible refine bcase_nt (by omega) ?_) | (with_reducible refine bcase_bne (fun hb => ?_) (fun hb => ?_)) | (with_reducible refine fin_inl ?_) | (with_reducible refine acalls_of_vc ref25_bad.k ?_) | (with_reducible refine Pure.use (hM) ?_) | ((with_reducible refine pure_guard (hR) ?_); (refine Pure.use0 (hR) (by (first | ((repeat (first | with_reducible exact RsL.nil | refine RsL.cons (Rs.eq rfl (by first | exact idLt_mapI (by intro a; simp))) ?_)); done) | fail)) ?_)) | (with_reducible refine wnum_mk ?_)) <;> (conv => whnf))
    all_goals first | exact fin_pure rfl (by simp; done) | (exfalso; omega)
  · have hR := ref20_Read.f bs hbs w1
    have he : rdE bs ≠ 0 := by unfold rdE; split <;> first | decide | assumption
    generalize rdE bs = E at hR he
    refine pure_of_vc ref25_Well.k (by simp) ?_
    conv => whnf
    repeat' ((first | (with_reducible refine hid_mk ?_) | (with_reducible refine bcase_not ?_) | (with_reducible refine bcase_true (by with_reducible assumption) ?_) | (with_reducible refine bcase_df (by omega) ?_) | (with_reducible refine bcase_nt (by omega) ?_) | (with_reducible refine fin_inl ?_) | (with_reducible refine acalls_of_vc ref25_bad.k ?_) | (with_reducible refine Pure.use (hM) ?_) | ((with_reducible refine pure_guard (hR) ?_); (refine Pure.use0 (hR) (by (first | ((repeat (first | with_reducible exact RsL.nil | refine RsL.cons (Rs.eq rfl (by first | exact idLt_mapI (by intro a; simp))) ?_)); done) | fail)) ?_))) <;> (conv => whnf))
    all_goals exact fin_pure rfl (by simp)

open Classical in
/-- What both answer of a packet. -/
noncomputable def wellV (p : Pl) (outs round fr : Int) (bs : List UInt8) : AV :=
  if cMay p outs round then (if WOk p outs round fr bs then .tup [.agg [.int .i64 (mW (unI bs)), u64s (rlL (mL (unI bs)))], .int .i64 0] else .tup [rNone, .int .i64 8]) else .tup [rNone, .int .i64 2]
theorem collect_Well.a (p : Pl) (outs round fr : Int) (bs : List UInt8) (hbs : bs.length ≤ 140737488351232) : Pure prog 5 [p.v, .int .i64 outs, .int .i64 round, .int .i64 fr, u8s bs] (wellV p outs round fr bs) := by
  unfold wellV
  by_cases hc : cMay p outs round
  · rw [if_pos hc]
    by_cases hw : WOk p outs round fr bs
    · rw [if_pos hw]; exact collect_Well.s p outs round fr bs hbs hc hw
    · rw [if_neg hw]; exact collect_Well.f p outs round fr bs hbs hc hw
  · rw [if_neg hc]; exact collect_Well.b p outs round fr bs hc
theorem ref25_Well.a (p : Pl) (outs round fr : Int) (bs : List UInt8) (hf : p.Fok) (hfr : I64 fr) (hbs : bs.length ≤ 140737488351232) : Pure prog 6 [p.v, .int .i64 outs, .int .i64 round, .int .i64 fr, u8s bs] (wellV p outs round fr bs) := by
  unfold wellV
  unfold I64 at hfr
  by_cases hc : cMay p outs round
  · rw [if_pos hc]
    by_cases hm : fr = -9223372036854775808
    · subst hm
      rw [if_neg (fun w => by have := w.wk; omega)]
      exact ref25_Well.m p outs round bs hf hbs hc
    · by_cases hw : WOk p outs round fr bs
      · rw [if_pos hw]; exact ref25_Well.s p outs round fr bs hf (by omega) hbs hc hw
      · rw [if_neg hw]; exact ref25_Well.f p outs round fr bs hf (by omega) hbs hc hw
  · rw [if_neg hc]; exact ref25_Well.b p outs round fr bs hf hc

end Go.Proofs.Ytilhkgfhhkkolaa.C
