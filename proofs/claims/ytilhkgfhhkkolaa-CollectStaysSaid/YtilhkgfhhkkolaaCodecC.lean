/- Package codec: Read. -/
import Derived.Test.YtilhkgfhhkkolaaCodecB
namespace Go.Proofs.Ytilhkgfhhkkolaa.C
open Go Go.RowKit Go.Proofs.Ytilhkgfhhkkolaa.AL
set_option maxRecDepth 100000
set_option maxHeartbeats 40000000
set_option linter.unusedVariables false
set_option linter.unusedSimpArgs false

/-- Is it a message, sealed? -/
structure ROk (bs : List UInt8) : Prop where
  un : unE bs = 0
  len : bs.length = 12 + numL (bs.take 4)
  msg : MOk (unI bs)
/-- What is wrong with it. -/
def rdE (bs : List UInt8) : Int := if unE bs = 0 then 8 else unE bs
theorem unE_len {bs : List UInt8} (h : unE bs = 0) : numL (bs.take 4) + 12 ≤ bs.length ∧ numL (bs.take 4) ≤ 1048576 ∧ (numL ((bs.drop (4 + numL (bs.take 4))).take 8) : Int) = fnv (bs.take (4 + numL (bs.take 4))) := by
  unfold unE at h
  (repeat' split at h) <;> first | (exact absurd h (by decide)) | exact ⟨by omega, by omega, by assumption⟩
theorem unI_length {bs : List UInt8} (h : unE bs = 0) : (unI bs).length = numL (bs.take 4) := by
  have := (unE_len h).1
  simp [unI]; omega

theorem codec_Read.s (bs : List UInt8) (hb : bs.length ≤ 140737488351232) (h : ROk bs) : Pure prog 14 [u8s bs] (.tup [.agg (mMsg (unI bs)), .int .i64 0]) := by
  obtain ⟨h1, h2, h3⟩ := h
  have hU := wire_Unseal.s bs hb h1
  have hil := unI_length h1
  have hP := codec_parts.s (unI bs) (by omega) h3
  refine pure_of_vc codec_Read.k (by simp) ?_
  conv => whnf
  repeat' ((first | (with_reducible refine hid_mk ?_) | (with_reducible refine bcase_df (by omega) ?_) | (with_reducible refine Pure.use (hU) ?_) | ((with_reducible refine pure_guard (hP) ?_); (refine Pure.use0 (hP) (by (first | ((repeat (first | with_reducible exact RsL.nil | refine RsL.cons (Rs.eq rfl (by first | exact idLt_mapI (by intro a; simp))) ?_)); done) | fail)) ?_))) <;> (conv => whnf))
  all_goals exact fin_pure rfl (by simp)
theorem codec_Read.f (bs : List UInt8) (hb : bs.length ≤ 140737488351232) (h : ¬ ROk bs) : Pure prog 14 [u8s bs] (.tup [.agg mNone, .int .i64 (rdE bs)]) := by
  unfold rdE
  by_cases h1 : unE bs = 0
  · have hU := wire_Unseal.s bs hb h1
    have hil := unI_length h1
    have hl := (unE_len h1).1
    rw [if_pos h1]
    by_cases h3 : MOk (unI bs)
    · have hP := codec_parts.s (unI bs) (by omega) h3
      have hne : bs.length ≠ 12 + numL (bs.take 4) := fun q => h ⟨h1, q, h3⟩
      refine pure_of_vc codec_Read.k (by simp) ?_
      conv => whnf
      repeat' ((first | (with_reducible refine hid_mk ?_) | (with_reducible refine bcase_dt (by omega) ?_) | (with_reducible refine Pure.use (hU) ?_) | ((with_reducible refine pure_guard (hP) ?_); (refine Pure.use0 (hP) (by (first | ((repeat (first | with_reducible exact RsL.nil | refine RsL.cons (Rs.eq rfl (by first | exact idLt_mapI (by intro a; simp))) ?_)); done) | fail)) ?_))) <;> (conv => whnf))
      all_goals exact fin_pure rfl (by simp)
    · have hP := codec_parts.f (unI bs) (by omega) h3
      refine pure_of_vc codec_Read.k (by simp) ?_
      conv => whnf
      repeat' ((first | (with_reducible refine hid_mk ?_) | (with_reducible refine Pure.use (hU) ?_) | ((with_reducible refine pure_guard (hP) ?_); (refine Pure.use0 (hP) (by (first | ((repeat (first | with_reducible exact RsL.nil | refine RsL.cons (Rs.eq rfl (by first | exact idLt_mapI (by intro a; simp))) ?_)); done) | fail)) ?_))) <;> (conv => whnf))
      all_goals exact fin_pure rfl (by simp)
  · have hU := wire_Unseal.e bs hb h1
    rw [if_neg h1]
    generalize unE bs = E at hU h1
    refine pure_of_vc codec_Read.k (by simp) ?_
    conv => whnf
    repeat' ((first | (with_reducible refine hid_mk ?_) | (with_reducible refine bcase_nt (by omega) ?_) | (with_reducible refine Pure.use (hU) ?_)) <;> (conv => whnf))
    all_goals exact fin_pure rfl (by simp)

end Go.Proofs.Ytilhkgfhhkkolaa.C
