/- Package collect: Well, and the document's. -/
import Derived.Test.YtilhkgfhhkkolaaCollA
namespace Go.Proofs.Ytilhkgfhhkkolaa.C
open Go Go.RowKit Go.Proofs.Ytilhkgfhhkkolaa.AL
set_option maxRecDepth 100000
set_option maxHeartbeats 40000000
set_option linter.unusedVariables false
set_option linter.unusedSimpArgs false

/-- May it be asked for? -/
def cMay (p : Pl) (outs round : Int) : Prop := p.may = true ∧ (0 ≤ outs ∧ outs ≤ 64) ∧ (0 ≤ round ∧ round < 65536)
abbrev rNone : AV := .agg [.int .i64 0, .lit (.slice none 0 0)]
/-- Does it count? -/
structure WOk (p : Pl) (outs round fr : Int) (bs : List UInt8) : Prop where
  r : ROk bs
  k : mK (unI bs) = 2
  rd : (mR (unI bs) : Int) = round
  wk : (mW (unI bs) : Int) = fr - 1
  wn : (mW (unI bs) : Int) < p.n
  f : rlF (mL (unI bs)) = p.f
  n : (rlN (mL (unI bs)) : Int) = outs

set_option maxRecDepth 1000000
theorem collect_Well.b (p : Pl) (outs round fr : Int) (bs : List UInt8) (hno : ¬ cMay p outs round) : Pure prog 5 [p.v, .int .i64 outs, .int .i64 round, .int .i64 fr, u8s bs] (.tup [rNone, .int .i64 2]) := by
  unfold cMay at hno
  have hM := plan_May.a p
  refine pure_of_vc collect_Well.k (by simp) ?_
  conv => whnf
  repeat' ((first | (with_reducible refine hid_mk ?_) | (with_reducible refine bcase_not ?_) | (with_reducible refine bcase_dec (fun hb => ?_) (fun hb => ?_)) | (with_reducible refine bcase_mk (fun hb => ?_) (fun hb => ?_)) | (with_reducible refine fin_inl ?_) | (with_reducible refine acalls_of_vc collect_may.k ?_) | (with_reducible refine Pure.use (hM) ?_)) <;> (conv => whnf))
  all_goals first | exact fin_pure rfl (by simp; done) | exact absurd ⟨by assumption, ⟨by omega, by omega⟩, by omega, by omega⟩ hno
theorem collect_Well.s (p : Pl) (outs round fr : Int) (bs : List UInt8) (hbs : bs.length ≤ 140737488351232) (hc : cMay p outs round) (hw : WOk p outs round fr bs) : Pure prog 5 [p.v, .int .i64 outs, .int .i64 round, .int .i64 fr, u8s bs] (.tup [.agg [.int .i64 (mW (unI bs)), u64s (rlL (mL (unI bs)))], .int .i64 0]) := by
  obtain ⟨h1, h2, h3⟩ := hc
  obtain ⟨w1, w2, w3, w4, w5, w6, w7⟩ := hw
  have hM := plan_May.a p
  have hn := (Pl.may_iff.1 h1).2.1
  have hR := codec_Read.s bs hbs w1
  have hll := rlL_length (mL (unI bs))
  refine pure_of_vc collect_Well.k (by simp) ?_
  conv => whnf
  repeat' ((first | (with_reducible refine hid_mk ?_) | (with_reducible refine bcase_not ?_) | (with_reducible refine bcase_true (by with_reducible assumption) ?_) | (with_reducible refine bcase_dt (by omega) ?_) | (with_reducible refine bcase_df (by omega) ?_) | (with_reducible refine bcase_nf (by omega) ?_) | (with_reducible refine fin_inl ?_) | (with_reducible refine acalls_of_vc collect_may.k ?_) | (with_reducible refine Pure.use (hM) ?_) | ((with_reducible refine pure_guard (hR) ?_); (refine Pure.use0 (hR) (by (first | ((repeat (first | with_reducible exact RsL.nil | refine RsL.cons (Rs.eq rfl (by first | exact idLt_mapI (by intro a; simp))) ?_)); done))) ?_)) | (with_reducible refine wnum_i64 (by omega) ?_)) <;> (conv => whnf))
  all_goals exact fin_pure rfl (by simp)
theorem collect_Well.f (p : Pl) (outs round fr : Int) (bs : List UInt8) (hbs : bs.length ≤ 140737488351232) (hc : cMay p outs round) (hno : ¬ WOk p outs round fr bs) : Pure prog 5 [p.v, .int .i64 outs, .int .i64 round, .int .i64 fr, u8s bs] (.tup [rNone, .int .i64 8]) := by
  obtain ⟨h1, h2, h3⟩ := hc
  have hM := plan_May.a p
  have hn := (Pl.may_iff.1 h1).2.1
  have hll := rlL_length (mL (unI bs))
  by_cases w1 : ROk bs
  · have hR := codec_Read.s bs hbs w1
    refine pure_of_vc collect_Well.k (by simp) ?_
    conv => whnf
    repeat' ((first | (with_reducible refine hid_mk ?_) | (with_reducible refine bcase_not ?_) | (with_reducible refine bcase_true (by with_reducible assumption) ?_) | (with_reducible refine bcase_dt (by omega) ?_) | (with_reducible refine bcase_dec (fun hb => ?_) (fun hb => ?_)) | (with_reducible refine bcase_bne (fun hb => ?_) (fun hb => ?_)) | (with_reducible refine fin_inl ?_) | (with_reducible refine acalls_of_vc collect_may.k ?_) | (with_reducible refine Pure.use (hM) ?_) | ((with_reducible refine pure_guard (hR) ?_); (refine Pure.use0 (hR) (by (first | ((repeat (first | with_reducible exact RsL.nil | refine RsL.cons (Rs.eq rfl (by first | exact idLt_mapI (by intro a; simp))) ?_)); done))) ?_)) | (with_reducible refine wnum_i64 (by omega) ?_)) <;> (conv => whnf))
    all_goals first | exact fin_pure rfl (by simp; done) | exact absurd ⟨w1, by omega, by omega, by omega, by omega, by omega, by omega⟩ hno
  · have hR := codec_Read.f bs hbs w1
    have he : rdE bs ≠ 0 := by unfold rdE; split <;> first | decide | assumption
    generalize rdE bs = E at hR he
    refine pure_of_vc collect_Well.k (by simp) ?_
    conv => whnf
    repeat' ((first | (with_reducible refine hid_mk ?_) | (with_reducible refine bcase_not ?_) | (with_reducible refine bcase_true (by with_reducible assumption) ?_) | (with_reducible refine bcase_dt (by omega) ?_) | (with_reducible refine bcase_nt (by omega) ?_) | (with_reducible refine fin_inl ?_) | (with_reducible refine acalls_of_vc collect_may.k ?_) | (with_reducible refine Pure.use (hM) ?_) | ((with_reducible refine pure_guard (hR) ?_); (refine Pure.use0 (hR) (by (first | ((repeat (first | with_reducible exact RsL.nil | refine RsL.cons (Rs.eq rfl (by first | exact idLt_mapI (by intro a; simp))) ?_)); done))) ?_))) <;> (conv => whnf))
    all_goals exact fin_pure rfl (by simp)

end Go.Proofs.Ytilhkgfhhkkolaa.C
