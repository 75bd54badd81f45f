/- Straight-line programs: Same, both. -/
import Derived.Test.YtginchgkbgcimaaDoorSlpC
namespace Go.Proofs.YtginchgkbgcimaaDoor.C
open Go Go.RowKit Go.Proofs.YtginchgkbgcimaaDoor.AL
set_option maxRecDepth 100000
set_option maxHeartbeats 40000000
set_option linter.unusedVariables false
set_option linter.unusedSimpArgs false

theorem gt_ext' {α : Type} [Inhabited α] {l m : List α} (h : l.length = m.length) (k : ∀ i, i < l.length → gt l i = gt m i) : l = m := gt_ext h k

set_option maxRecDepth 1000000
theorem slices_EqualOps.a (l m : List SOp) (hl : l.length ≤ 17592186043904) : Pure prog 41 [opsV l, opsV m] (.bool (decide (l = m))) := by
  refine pure_of_vc slices_Equal_api_Op_api_Op.k (List.forall_mem_cons.2 ⟨opsV_cl l, List.forall_mem_cons.2 ⟨opsV_cl m, by simp⟩⟩) ?_
  by_cases hlen : l.length = m.length
  · conv => whnf
    repeat' ((first | (with_reducible refine hid_mk ?_) | (with_reducible refine bcase_nf (by omega) ?_) | (with_reducible refine vblk_same ?_)) <;> (conv => whnf))
    refine vloopW slices_Equal_api_Op_api_Op.D0 (fun k : Nat => [(13, .int .i64 k)]) (fun _ => []) (fun k => k ≤ l.length ∧ ∀ i, i < k → gt l i = gt m i) (fun k => l.length - k) 0 (by simp) rfl ?_ ?_
    · (with_reducible refine wk_force ?_); (conv => whnf); (with_reducible refine hid_mk ?_); (repeat (first | with_reducible refine Wk.wild ?_ | refine Wk.cons (by first | with_reducible rfl | exact congrArg (AV.int _) (by first | rfl) | fail) ?_)); with_reducible exact Wk.nil
    rintro k ⟨hk, hko⟩ Q' hn hx
    try dsimp only at hk ⊢
    by_cases hkl : k < l.length
    · by_cases ho : gt l k = gt m k
      · have hko1 : ∀ i, i < k + 1 → gt l i = gt m i := fun i hi => by
          by_cases e : i = k
          · subst e; exact ho
          · exact hko i (by omega)
        have h1 := congrArg SOp.k ho
        have h2 := congrArg SOp.a ho
        have h3 := congrArg SOp.b ho
        have h4 := congrArg SOp.c ho
        conv => whnf
        repeat' ((first | (with_reducible refine hid_mk ?_) | (with_reducible refine bcase_dt (by omega) ?_) | (with_reducible refine bcase_mk (fun hb => ?_) (fun hb => ?_)) | (with_reducible refine hx _ _ _ rfl ?_) | (with_reducible refine vblk_same ?_) | (with_reducible refine wnum_i64 (by omega) ?_) | (with_reducible refine wfoc_flatc (by intro _; with_unfolding_all rfl) (by first | with_reducible assumption | omega) ?_) | (with_reducible refine And.intro (by first | with_reducible assumption | omega) ?_)) <;> (conv => whnf))
        all_goals first
          | exact hn (k + 1) ⟨by omega, hko1⟩ (by omega) _ _ (.inl ⟨rfl, by (with_reducible refine wk_force ?_); (conv => whnf); (with_reducible refine hid_mk ?_); (repeat (first | with_reducible refine Wk.wild ?_ | refine Wk.cons (by first | with_reducible rfl | exact congrArg (AV.int _) (by first | rfl) | fail) ?_)); with_reducible exact Wk.nil⟩)
          | (exfalso; simp_all; done)
          | fail
      · have hne : ¬ l = m := fun e => ho (by rw [e])
        have hf : ¬ ((gt l k).k = (gt m k).k ∧ (gt l k).a = (gt m k).a ∧ (gt l k).b = (gt m k).b ∧ (gt l k).c = (gt m k).c) := fun q => ho (by
          obtain ⟨q1, q2, q3, q4⟩ := q
          generalize gt l k = x at q1 q2 q3 q4 ⊢
          generalize gt m k = y at q1 q2 q3 q4 ⊢
          cases x; cases y; simp_all)
        conv => whnf
        repeat' ((first | (with_reducible refine hid_mk ?_) | (with_reducible refine bcase_dt (by omega) ?_) | (with_reducible refine bcase_mk (fun hb => ?_) (fun hb => ?_)) | (with_reducible refine hx _ _ _ rfl ?_) | (with_reducible refine vblk_same ?_) | (with_reducible refine wnum_i64 (by omega) ?_) | (with_reducible refine wfoc_flatc (by intro _; with_unfolding_all rfl) (by first | with_reducible assumption | omega) ?_) | (with_reducible refine And.intro (by first | with_reducible assumption | omega) ?_)) <;> (conv => whnf))
        all_goals first
          | exact fin_pure (by rw [decide_eq_false hne]) (by simp)
          | (exfalso; simp_all; done)
          | (exfalso; simp at *; omega)
          | fail
    · have he : l = m := gt_ext' hlen fun i hi => hko i (by omega)
      conv => whnf
      repeat' ((first | (with_reducible refine hid_mk ?_) | (with_reducible refine bcase_df (by omega) ?_) | (with_reducible refine hx _ _ _ rfl ?_)) <;> (conv => whnf))
      all_goals exact fin_pure (by rw [decide_eq_true he]) (by simp)
  · have hne : ¬ l = m := fun e => hlen (by rw [e])
    conv => whnf
    repeat' ((first | (with_reducible refine hid_mk ?_) | (with_reducible refine bcase_nt (by omega) ?_)) <;> (conv => whnf))
    all_goals exact fin_pure (by rw [decide_eq_false hne]) (by simp)

theorem slices_EqualInts.a (l m : List Int) (hl : l.length ≤ 17592186043904) : Pure prog 42 [i64s l, i64s m] (.bool (decide (l = m))) := by
  refine pure_of_vc slices_Equal_int_int.k (by simp) ?_
  by_cases hlen : l.length = m.length
  · conv => whnf
    repeat' ((first | (with_reducible refine hid_mk ?_) | (with_reducible refine bcase_nf (by omega) ?_) | (with_reducible refine vblk_same ?_)) <;> (conv => whnf))
    refine vloopW slices_Equal_int_int.D0 (fun k : Nat => [(13, .int .i64 k)]) (fun _ => []) (fun k => k ≤ l.length ∧ ∀ i, i < k → gt l i = gt m i) (fun k => l.length - k) 0 (by simp) rfl ?_ ?_
    · (with_reducible refine wk_force ?_); (conv => whnf); (with_reducible refine hid_mk ?_); (repeat (first | with_reducible refine Wk.wild ?_ | refine Wk.cons (by first | with_reducible rfl | exact congrArg (AV.int _) (by first | rfl) | fail) ?_)); with_reducible exact Wk.nil
    rintro k ⟨hk, hko⟩ Q' hn hx
    try dsimp only at hk ⊢
    by_cases hkl : k < l.length
    · by_cases ho : gt l k = gt m k
      · have hko1 : ∀ i, i < k + 1 → gt l i = gt m i := fun i hi => by
          by_cases e : i = k
          · subst e; exact ho
          · exact hko i (by omega)
        conv => whnf
        repeat' ((first | (with_reducible refine hid_mk ?_) | (with_reducible refine bcase_dt (by omega) ?_) | (with_reducible refine bcase_nf (by omega) ?_) | (with_reducible refine vblk_same ?_) | (with_reducible refine wnum_i64 (by omega) ?_) | (with_reducible refine wfoc_mapc (by first | with_reducible assumption | omega) ?_) | (with_reducible refine And.intro (by first | with_reducible assumption | omega) ?_)) <;> (conv => whnf))
        all_goals first
          | exact hn (k + 1) ⟨by omega, hko1⟩ (by omega) _ _ (.inl ⟨rfl, by (with_reducible refine wk_force ?_); (conv => whnf); (with_reducible refine hid_mk ?_); (repeat (first | with_reducible refine Wk.wild ?_ | refine Wk.cons (by first | with_reducible rfl | exact congrArg (AV.int _) (by first | rfl) | fail) ?_)); with_reducible exact Wk.nil⟩)
          | fail
      · have hne : ¬ l = m := fun e => ho (by rw [e])
        conv => whnf
        repeat' ((first | (with_reducible refine hid_mk ?_) | (with_reducible refine bcase_dt (by omega) ?_) | (with_reducible refine bcase_nt (by omega) ?_) | (with_reducible refine hx _ _ _ rfl ?_) | (with_reducible refine vblk_same ?_) | (with_reducible refine wfoc_mapc (by first | with_reducible assumption | omega) ?_) | (with_reducible refine And.intro (by first | with_reducible assumption | omega) ?_)) <;> (conv => whnf))
        all_goals first
          | exact fin_pure (by rw [decide_eq_false hne]) (by simp)
          | fail
    · have he : l = m := gt_ext' hlen fun i hi => hko i (by omega)
      conv => whnf
      repeat' ((first | (with_reducible refine hid_mk ?_) | (with_reducible refine bcase_df (by omega) ?_) | (with_reducible refine hx _ _ _ rfl ?_)) <;> (conv => whnf))
      all_goals exact fin_pure (by rw [decide_eq_true he]) (by simp)
  · have hne : ¬ l = m := fun e => hlen (by rw [e])
    conv => whnf
    repeat' ((first | (with_reducible refine hid_mk ?_) | (with_reducible refine bcase_nt (by omega) ?_)) <;> (conv => whnf))
    all_goals exact fin_pure (by rw [decide_eq_false hne]) (by simp)

theorem sprog_ext (p q : SProg) : p = q ↔ p.n = q.n ∧ p.ops = q.ops ∧ p.outs = q.outs := by
  cases p; cases q; simp
theorem slp_Same.a (p q : SProg) (hl : p.len) : Pure prog 17 [p.v, q.v] (.bool (decide (p = q))) := by
  have h1 := slices_EqualOps.a p.ops q.ops hl.1
  have h2 := slices_EqualInts.a p.outs q.outs hl.2
  refine pure_of_vc slp_Same.k (List.forall_mem_cons.2 ⟨sprog_cl p, List.forall_mem_cons.2 ⟨sprog_cl q, by simp⟩⟩) ?_
  conv => whnf
  repeat' ((first | (with_reducible refine hid_mk ?_) | (with_reducible refine bcase_dec (fun hb => ?_) (fun hb => ?_)) | (with_reducible refine bcase_beq (fun hb => ?_) (fun hb => ?_)) | (with_reducible refine Pure.use (h1) ?_) | (with_reducible refine Pure.use (h2) ?_)) <;> (conv => whnf))
  all_goals exact fin_pure (congrArg AV.bool (by symm; first | (rw [decide_eq_true_iff, sprog_ext]; simp_all; done) | (rw [decide_eq_false_iff_not, sprog_ext]; simp_all; done) | (rw [Bool.eq_iff_iff]; simp only [decide_eq_true_iff, sprog_ext]; simp_all; done))) (by simp)

end Go.Proofs.YtginchgkbgcimaaDoor.C
