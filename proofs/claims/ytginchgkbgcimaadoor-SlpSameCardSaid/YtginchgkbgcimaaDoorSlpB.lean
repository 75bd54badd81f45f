/- Straight-line programs: May, both: the other answer, and the document's. -/
import Derived.Test.YtginchgkbgcimaaDoorSlpA
namespace Go.Proofs.YtginchgkbgcimaaDoor.C
open Go Go.RowKit Go.Proofs.YtginchgkbgcimaaDoor.AL
set_option maxRecDepth 100000
set_option maxHeartbeats 40000000
set_option linter.unusedVariables false
set_option linter.unusedSimpArgs false

set_option maxRecDepth 1000000
theorem slp_May.f (p : SProg) (hl : p.len) (hno : ¬ SMay p) : Pure prog 16 [p.v] (.bool false) := by
  obtain ⟨hl1, hl2⟩ := hl
  refine pure_of_vc slp_May.k (List.forall_mem_cons.2 ⟨sprog_cl p, by simp⟩) ?_
  conv => whnf
  repeat' ((first | (with_reducible refine hid_mk ?_) | (with_reducible refine bcase_dec (fun hb => ?_) (fun hb => ?_)) | (with_reducible refine vblk_same ?_)) <;> (conv => whnf))
  case' refine_2.refine_2.refine_2.refine_2 => skip
  all_goals first | exact fin_pure rfl (by simp) | skip
  refine vloopW slp_May.D0 (fun k : Nat => [(29, .int .i64 k)]) (fun _ => [.cells p.cells none]) (fun k => k ≤ p.ops.length ∧ ∀ i, i < k → (gt p.ops i).ok (p.n + i)) (fun k => p.ops.length - k) 0 (by simp) rfl ?_ ?_
  · (with_reducible refine wk_force ?_); (conv => whnf); (with_reducible refine hid_mk ?_); (repeat (first | with_reducible refine Wk.wild ?_ | refine Wk.cons (by first | with_reducible rfl | exact congrArg (AV.int _) (by first | rfl) | fail) ?_)); with_reducible exact Wk.nil
  rintro k ⟨hk, hko⟩ Q' hn hx
  try dsimp only at hk ⊢
  by_cases hkl : k < p.ops.length
  · by_cases ho : (gt p.ops k).ok (p.n + k)
    · have hko1 : ∀ i, i < k + 1 → (gt p.ops i).ok (p.n + i) := fun i hi => by
        by_cases e : i = k
        · subst e; exact ho
        · exact hko i (by omega)
      unfold SOp.ok at ho
      conv => whnf
      repeat' ((first | (with_reducible refine hid_mk ?_) | (with_reducible refine bcase_dt (by omega) ?_) | (with_reducible refine bcase_df (by omega) ?_) | (with_reducible refine bcase_et (by omega) ?_) | (with_reducible refine bcase_nf (by omega) ?_) | (with_reducible refine bcase_beq (fun hb => ?_) (fun hb => ?_)) | (with_reducible refine vblk_same ?_) | (with_reducible refine wnum_i64 (by omega) ?_) | (with_reducible refine wfoc_flatc (by intro _; with_unfolding_all rfl) (by first | with_reducible assumption) ?_) | (with_reducible refine And.intro (by first | with_reducible assumption | omega) ?_)) <;> (conv => whnf))
      all_goals first
        | (((refine hn (k + 1) (⟨by omega, hko1⟩) (by omega) _ _ (.inr (next_fin (fun ts h => [0]) ?_))); (simp only [List.map_nil]); (conv => whnf); (refine hid_mk ⟨⟨?_, trivial⟩, ?_⟩); (all_goals first | (first | exact objR_same (by simp) rfl rfl (cells_cl _) | fail) | ((with_reducible refine rsl_force ?_); (conv => whnf); (with_reducible refine hid_mk ?_); (repeat (first | with_reducible exact RsL.nil | with_reducible refine RsL.cons (Rs.wild _) ?_ | with_reducible refine RsL.cons (Rs.int_eq (by first | rfl | omega)) ?_ | with_reducible refine RsL.cons (Rs.ptr _ _ _ rfl) ?_ | refine RsL.cons (Rs.eq rfl (by first | exact idLt_mapI (by intro a; simp) | (simp; done) | exact idLt_fl (by intro a _; simp) | exact sprog_cl _)) ?_))))); done)
        | (exfalso; omega)
        | fail
    · unfold SOp.ok at ho
      conv => whnf
      repeat' ((first | (with_reducible refine hid_mk ?_) | (with_reducible refine bcase_dt (by omega) ?_) | (with_reducible refine bcase_et (by omega) ?_) | (with_reducible refine bcase_nt (by omega) ?_) | (with_reducible refine bcase_dec (fun hb => ?_) (fun hb => ?_)) | (with_reducible refine bcase_beq (fun hb => ?_) (fun hb => ?_)) | (with_reducible refine bcase_bne (fun hb => ?_) (fun hb => ?_)) | (with_reducible refine hx _ _ _ rfl ?_) | (with_reducible refine vblk_same ?_) | (with_reducible refine wnum_i64 (by omega) ?_) | (with_reducible refine wfoc_flatc (by intro _; with_unfolding_all rfl) (by first | with_reducible assumption) ?_) | (with_reducible refine And.intro (by first | with_reducible assumption | omega) ?_)) <;> (conv => whnf))
      all_goals first
        | exact fin_pure rfl (by simp)
        | (exfalso; omega)
        | fail
  · have hkl' : k = p.ops.length := by omega
    conv => whnf
    repeat' ((first | (with_reducible refine hid_mk ?_) | (with_reducible refine bcase_df (by omega) ?_) | (with_reducible refine hx _ _ _ rfl ?_) | (with_reducible refine acalls_of_vc slices_ContainsFunc_int_int.k ?_) | (with_reducible refine acalls_of_vc slices_IndexFunc_int_int.k ?_) | (with_reducible refine vblk_same ?_)) <;> (conv => whnf))
    refine vloopW slices_IndexFunc_int_int.D0 (fun j : Nat => [(8, .int .i64 j)]) (fun _ => [.cells p.cells none]) (fun j => j ≤ p.outs.length ∧ ∀ i, i < j → 0 ≤ gt p.outs i ∧ gt p.outs i < p.n + p.ops.length) (fun j => p.outs.length - j) 0 (by simp) rfl ?_ ?_
    · (with_reducible refine wk_force ?_); (conv => whnf); (with_reducible refine hid_mk ?_); (repeat (first | with_reducible refine Wk.wild ?_ | refine Wk.cons (by first | with_reducible rfl | exact congrArg (AV.int _) (by first | rfl) | fail) ?_)); with_reducible exact Wk.nil
    rintro j ⟨hj, hjo⟩ Q2 hn2 hx2
    try dsimp only at hj ⊢
    conv => whnf
    repeat' ((first | (with_reducible refine hid_mk ?_) | (with_reducible refine bcase_dec (fun hb => ?_) (fun hb => ?_)) | (with_reducible refine hx2 _ _ _ rfl ?_) | (with_reducible refine fin_inl ?_) | (with_reducible refine acalls_of_vc slp_May_1.k ?_) | (with_reducible refine vblk_same ?_) | (with_reducible refine wnum_i64 (by omega) ?_) | (with_reducible refine wfoc_mapc (by first | omega) ?_) | (with_reducible refine fin_hb (by kernel_rfl)) | (with_reducible refine And.intro (by first | with_reducible assumption | omega) ?_) | (with_reducible refine And.intro (fin_el ?_) ?_)) <;> (conv => whnf))
    all_goals first
      | exact hn2 (j + 1) ⟨by omega, fun i hi => by (by_cases e : i = j); (subst e; omega); exact hjo i (by omega)⟩ (by omega) _ _ (.inl ⟨rfl, by (with_reducible refine wk_force ?_); (conv => whnf); (with_reducible refine hid_mk ?_); (repeat (first | with_reducible refine Wk.wild ?_ | refine Wk.cons (by first | with_reducible rfl | exact congrArg (AV.int _) (by first | rfl) | fail) ?_)); with_reducible exact Wk.nil⟩)
      | exact fin_pure (congrArg AV.bool (by first | (simp; done) | fail)) (by simp)
      | exact absurd ⟨by omega, by omega, by omega, fun i hi => hko i (by omega), fun i hi => hjo i (by omega)⟩ hno
      | fail

end Go.Proofs.YtginchgkbgcimaaDoor.C
