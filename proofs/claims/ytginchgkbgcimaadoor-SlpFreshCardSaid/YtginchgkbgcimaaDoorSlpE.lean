/- Straight-line programs: the document's Same; the law SlpMays. -/
import Derived.Test.YtginchgkbgcimaaDoorSlpD
namespace Go.Proofs.YtginchgkbgcimaaDoor.C
open Go Go.RowKit Go.Proofs.YtginchgkbgcimaaDoor.AL
set_option maxRecDepth 100000
set_option maxHeartbeats 40000000
set_option linter.unusedVariables false
set_option linter.unusedSimpArgs false

set_option maxRecDepth 1000000
theorem ref09_Ints.a (l m : List Int) (hl : l.length ≤ 17592186043904) : Pure prog 36 [i64s l, i64s m] (.bool (decide (l = m))) := by
  refine pure_of_vc ref09_Ints.k (by simp) ?_
  by_cases hlen : l.length = m.length
  · conv => whnf
    repeat' ((first | (with_reducible refine hid_mk ?_) | (with_reducible refine bcase_nf (by omega) ?_) | (with_reducible refine vblk_same ?_)) <;> (conv => whnf))
    refine vloopW ref09_Ints.D0 (fun k : Nat => [(5, .int .i64 k)]) (fun _ => []) (fun k => k ≤ l.length ∧ ∀ i, i < k → gt l i = gt m i) (fun k => l.length - k) 0 (by simp) rfl ?_ ?_
    · (with_reducible refine wk_force ?_); (conv => whnf); (with_reducible refine hid_mk ?_); (repeat (first | with_reducible refine Wk.wild ?_ | refine Wk.cons (by first | with_reducible rfl | exact congrArg (AV.int _) (by first | rfl) | fail) ?_)); with_reducible exact Wk.nil
    rintro k ⟨hk, hko⟩ Q' hn hx
    try dsimp only at hk ⊢
    by_cases hkl : k < l.length
    · by_cases ho : gt l k = gt m k
      · have hko1 : ∀ i, i < k + 1 → gt l i = gt m i := fun i hi => by
          by_cases e : i = k
          · subst e; exact ho
          · exact hko i (by omega)
        conv => whnf
        repeat' ((first | (with_reducible refine hid_mk ?_) | (with_reducible refine bcase_dt (by omega) ?_) | (with_reducible refine bcase_nf (by omega) ?_) | (with_reducible refine vblk_same ?_) | (with_reducible refine wnum_i64 (by omega) ?_) | (with_reducible refine wfoc_mapc (by first | with_reducible assumption | omega) ?_) | (with_reducible refine And.intro (by first | with_reducible assumption | omega) ?_)) <;> (conv => whnf))
        all_goals first
          | exact hn (k + 1) ⟨by omega, hko1⟩ (by omega) _ _ (.inl ⟨rfl, by (with_reducible refine wk_force ?_); (conv => whnf); (with_reducible refine hid_mk ?_); (repeat (first | with_reducible refine Wk.wild ?_ | refine Wk.cons (by first | with_reducible rfl | exact congrArg (AV.int _) (by first | rfl) | fail) ?_)); with_reducible exact Wk.nil⟩)
          | fail
      · have hne : ¬ l = m := fun e => ho (by rw [e])
        conv => whnf
        repeat' ((first | (with_reducible refine hid_mk ?_) | (with_reducible refine bcase_dt (by omega) ?_) | (with_reducible refine bcase_nt (by omega) ?_) | (with_reducible refine hx _ _ _ rfl ?_) | (with_reducible refine vblk_same ?_) | (with_reducible refine wfoc_mapc (by first | with_reducible assumption | omega) ?_) | (with_reducible refine And.intro (by first | with_reducible assumption | omega) ?_)) <;> (conv => whnf))
        all_goals first
          | exact fin_pure (by rw [decide_eq_false hne]) (by simp)
          | fail
    · have he : l = m := gt_ext' hlen fun i hi => hko i (by omega)
      conv => whnf
      repeat' ((first | (with_reducible refine hid_mk ?_) | (with_reducible refine bcase_df (by omega) ?_) | (with_reducible refine hx _ _ _ rfl ?_)) <;> (conv => whnf))
      all_goals exact fin_pure (by rw [decide_eq_true he]) (by simp)
  · have hne : ¬ l = m := fun e => hlen (by rw [e])
    conv => whnf
    repeat' ((first | (with_reducible refine hid_mk ?_) | (with_reducible refine bcase_nt (by omega) ?_)) <;> (conv => whnf))
    all_goals exact fin_pure (by rw [decide_eq_false hne]) (by simp)

theorem ref09_Same.a (p q : SProg) (hl : p.len) : Pure prog 13 [p.v, q.v] (.bool (decide (p = q))) := by
  have h2 := ref09_Ints.a p.outs q.outs hl.2
  have hl1 := hl.1
  refine pure_of_vc ref09_Same.k (List.forall_mem_cons.2 ⟨sprog_cl p, List.forall_mem_cons.2 ⟨sprog_cl q, by simp⟩⟩) ?_
  by_cases hin : p.n = q.n
  · by_cases hlen : p.ops.length = q.ops.length
    · conv => whnf
      repeat' ((first | (with_reducible refine hid_mk ?_) | (with_reducible refine bcase_nf (by omega) ?_) | (with_reducible refine vblk_same ?_)) <;> (conv => whnf))
      refine vloopW ref09_Same.D0 (fun k : Nat => [(5, .int .i64 k)]) (fun _ => [.cells p.cells none, .cells q.cells none]) (fun k => k ≤ p.ops.length ∧ ∀ i, i < k → gt p.ops i = gt q.ops i) (fun k => p.ops.length - k) 0 (by simp) rfl ?_ ?_
      · (with_reducible refine wk_force ?_); (conv => whnf); (with_reducible refine hid_mk ?_); (repeat (first | with_reducible refine Wk.wild ?_ | refine Wk.cons (by first | with_reducible rfl | exact congrArg (AV.int _) (by first | rfl) | fail) ?_)); with_reducible exact Wk.nil
      rintro k ⟨hk, hko⟩ Q' hn hx
      try dsimp only at hk ⊢
      by_cases hkl : k < p.ops.length
      · by_cases ho : gt p.ops k = gt q.ops k
        · have hko1 : ∀ i, i < k + 1 → gt p.ops i = gt q.ops i := fun i hi => by
            by_cases e : i = k
            · subst e; exact ho
            · exact hko i (by omega)
          have h1 := congrArg SOp.k ho
          have h2 := congrArg SOp.a ho
          have h3 := congrArg SOp.b ho
          have h4 := congrArg SOp.c ho
          conv => whnf
          repeat' ((first | (with_reducible refine hid_mk ?_) | (with_reducible refine bcase_dt (by omega) ?_) | (with_reducible refine bcase_mk (fun hb => ?_) (fun hb => ?_)) | (with_reducible refine hx _ _ _ rfl ?_) | (with_reducible refine vblk_same ?_) | (with_reducible refine wnum_i64 (by omega) ?_) | (with_reducible refine wfoc_flatc (by intro _; with_unfolding_all rfl) (by first | with_reducible assumption | omega) ?_) | (with_reducible refine And.intro (by first | with_reducible assumption | omega) ?_)) <;> (conv => whnf))
          all_goals first
            | exact hn (k + 1) ⟨by omega, hko1⟩ (by omega) _ _ (.inl ⟨rfl, by (with_reducible refine wk_force ?_); (conv => whnf); (with_reducible refine hid_mk ?_); (repeat (first | with_reducible refine Wk.wild ?_ | refine Wk.cons (by first | with_reducible rfl | exact congrArg (AV.int _) (by first | rfl) | fail) ?_)); with_reducible exact Wk.nil⟩)
            | (exfalso; simp_all; done)
            | fail
        · have hne : ¬ p = q := fun e => ho (by rw [e])
          have hf : ¬ ((gt p.ops k).k = (gt q.ops k).k ∧ (gt p.ops k).a = (gt q.ops k).a ∧ (gt p.ops k).b = (gt q.ops k).b ∧ (gt p.ops k).c = (gt q.ops k).c) := fun z => ho (by
            obtain ⟨q1, q2, q3, q4⟩ := z
            generalize gt p.ops k = x at q1 q2 q3 q4 ⊢
            generalize gt q.ops k = y at q1 q2 q3 q4 ⊢
            cases x; cases y; simp_all)
          conv => whnf
          repeat' ((first | (with_reducible refine hid_mk ?_) | (with_reducible refine bcase_dt (by omega) ?_) | (with_reducible refine bcase_mk (fun hb => ?_) (fun hb => ?_)) | (with_reducible refine hx _ _ _ rfl ?_) | (with_reducible refine vblk_same ?_) | (with_reducible refine wnum_i64 (by omega) ?_) | (with_reducible refine wfoc_flatc (by intro _; with_unfolding_all rfl) (by first | with_reducible assumption | omega) ?_) | (with_reducible refine And.intro (by first | with_reducible assumption | omega) ?_)) <;> (conv => whnf))
          all_goals first
            | exact fin_pure (by rw [decide_eq_false hne]) (by simp)
            | (exfalso; simp_all; done)
            | (exfalso; simp at *; omega)
            | fail
      · have he : p.ops = q.ops := gt_ext' hlen fun i hi => hko i (by omega)
        conv => whnf
        repeat' ((first | (with_reducible refine hid_mk ?_) | (with_reducible refine bcase_df (by omega) ?_) | (with_reducible refine hx _ _ _ rfl ?_) | (with_reducible refine Pure.use (h2) ?_)) <;> (conv => whnf))
        all_goals exact fin_pure (congrArg AV.bool (by rw [Bool.eq_iff_iff]; simp only [decide_eq_true_iff, sprog_ext]; simp_all)) (by simp)
    · have hne : ¬ p = q := fun e => hlen (by rw [e])
      conv => whnf
      repeat' ((first | (with_reducible refine hid_mk ?_) | (with_reducible refine bcase_nt (by omega) ?_) | (with_reducible refine bcase_nf (by omega) ?_)) <;> (conv => whnf))
      all_goals exact fin_pure (by rw [decide_eq_false hne]) (by simp)
  · have hne : ¬ p = q := fun e => hin (by rw [e])
    conv => whnf
    repeat' ((first | (with_reducible refine hid_mk ?_) | (with_reducible refine bcase_nt (by omega) ?_)) <;> (conv => whnf))
    all_goals exact fin_pure (by rw [decide_eq_false hne]) (by simp)

theorem law09_SlpMays.a (hA : Pure prog 15 [] (.bool true)) (p q : SProg) (hp : p.len) (hq : q.len) : Pure prog 5 [p.v, q.v] (.bool true) := by
  have hS := slp_Same.a p q hp
  have hR := ref09_Same.a p q hp
  have hP := slp_Same.a p p hp
  rw [decide_eq_true rfl] at hP
  by_cases hm : SMay p
  · have h1 := slp_May.t p hm
    have h2 := ref09_May.t p hm
    refine pure_of_vc law09_SlpMays.k (List.forall_mem_cons.2 ⟨sprog_cl p, List.forall_mem_cons.2 ⟨sprog_cl q, by simp⟩⟩) ?_
    conv => whnf
    repeat' ((first | (with_reducible refine hid_mk ?_) | (with_reducible refine bcase_mk (fun hb => ?_) (fun hb => ?_)) | (with_reducible refine both_mk rfl ?_) | (with_reducible refine Pure.use (h1) ?_) | (with_reducible refine Pure.use (h2) ?_) | (with_reducible refine Pure.use (hS) ?_) | (with_reducible refine Pure.use (hR) ?_) | (with_reducible refine Pure.use (hP) ?_) | (with_reducible refine Pure.use (hA) ?_)) <;> (conv => whnf))
    all_goals first | exact fin_pure rfl (by simp) | (exfalso; simp_all; done) | exact fin_pure (by simp) (by simp) | fail
  · have h1 := slp_May.f p hp hm
    have h2 := ref09_May.f p hp hm
    refine pure_of_vc law09_SlpMays.k (List.forall_mem_cons.2 ⟨sprog_cl p, List.forall_mem_cons.2 ⟨sprog_cl q, by simp⟩⟩) ?_
    conv => whnf
    repeat' ((first | (with_reducible refine hid_mk ?_) | (with_reducible refine bcase_mk (fun hb => ?_) (fun hb => ?_)) | (with_reducible refine both_mk rfl ?_) | (with_reducible refine Pure.use (h1) ?_) | (with_reducible refine Pure.use (h2) ?_) | (with_reducible refine Pure.use (hS) ?_) | (with_reducible refine Pure.use (hR) ?_) | (with_reducible refine Pure.use (hP) ?_) | (with_reducible refine Pure.use (hA) ?_)) <;> (conv => whnf))
    all_goals first | exact fin_pure rfl (by simp) | (exfalso; simp_all; done) | exact fin_pure (by simp) (by simp) | fail

end Go.Proofs.YtginchgkbgcimaaDoor.C
