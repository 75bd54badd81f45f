/- Package collect: what First's answers are like. -/
import Derived.Test.YtilhkgfhhkkolaaCollF
namespace Go.Proofs.Ytilhkgfhhkkolaa.C
open Go Go.RowKit Go.Proofs.Ytilhkgfhhkkolaa.AL
set_option maxRecDepth 100000
set_option maxHeartbeats 40000000
set_option linter.unusedVariables false
set_option linter.unusedSimpArgs false

abbrev by3 (a b c : Int) : AV := .agg [.int .i64 a, .int .i64 b, .int .i64 c]

set_option maxRecDepth 1000000
theorem ref18_MayReply.t (p : Pl) (outs : Int) (r : Rep) (hf : p.Fok) (hm : p.may = true) (ho : 0 ≤ outs ∧ outs ≤ 64) (hw : 0 ≤ r.w ∧ r.w < p.n) (hl : (r.l.length : Int) = outs) (hin : inB p.f r.l = true) : Pure prog 12 [p.v, .int .i64 outs, .agg r.enc] (.bool true) := by
  have hM := ref12_May.a p hf
  have hI := ref01_In.a p.f r.l (by omega)
  refine pure_of_vc ref18_MayReply.k (by simp) ?_
  conv => whnf
  repeat' ((first | (with_reducible refine hid_mk ?_) | (with_reducible refine bcase_true (by with_reducible assumption) ?_) | (with_reducible refine bcase_dt (by omega) ?_) | (with_reducible refine bcase_et (by omega) ?_) | (with_reducible refine Pure.use (hM) ?_) | (with_reducible refine Pure.use (hI) ?_)) <;> (conv => whnf))
  exact fin_pure (by simp [hm, hin]) (by simp)

/-! ### what holds of the replies -/
theorem hasR_false {L : List Rep} {x : Int} (h : hasR L x = false) : ∀ r ∈ L, r.w ≠ x := by
  intro r hr e
  have : hasR L x = true := by rw [hasR, List.any_eq_true]; exact ⟨r, hr, by simpa using e⟩
  rw [h] at this; exact absurd this (by decide)
theorem frst1_ext (p : Pl) (outs round : Int) (R : List Rep) (x : Pkt) : ∃ t, frst1 p outs round R x = R ++ t := by
  unfold frst1; split
  · exact ⟨_, rfl⟩
  · exact ⟨[], by simp⟩
theorem frstl_ext (p : Pl) (outs round : Int) (l : List Pkt) : ∀ R : List Rep, ∃ t, l.foldl (frst1 p outs round) R = R ++ t := by
  induction l with
  | nil => intro R; exact ⟨[], by simp⟩
  | cons x l ih =>
    intro R
    obtain ⟨t, e⟩ := frst1_ext p outs round R x
    obtain ⟨u, e'⟩ := ih (frst1 p outs round R x)
    refine ⟨t ++ u, ?_⟩
    rw [List.foldl_cons, e', e, List.append_assoc]
/-- More packets behind them leave the first replies. -/
theorem frst_pre (p : Pl) (outs round : Int) (l : List Pkt) (n : Nat) : (frst p outs round (l.take n)).length ≤ (frst p outs round l).length ∧ (frst p outs round l).take (frst p outs round (l.take n)).length = frst p outs round (l.take n) := by
  have e : frst p outs round l = (l.drop n).foldl (frst1 p outs round) (frst p outs round (l.take n)) := by
    unfold frst; rw [← List.foldl_append, List.take_append_drop]
  obtain ⟨t, et⟩ := frstl_ext p outs round (l.drop n) (frst p outs round (l.take n))
  rw [e, et]
  exact ⟨by simp, by simp⟩
theorem frst_mem {p : Pl} {outs round : Int} (l : List Pkt) : ∀ R : List Rep, (∀ r ∈ R, ∃ x ∈ l, x.cnt p outs round ∧ r = x.rep) → ∀ m : List Pkt, (∀ x ∈ m, x ∈ l) → ∀ r ∈ m.foldl (frst1 p outs round) R, ∃ x ∈ l, x.cnt p outs round ∧ r = x.rep := by
  intro R hR m
  induction m generalizing R with
  | nil => intro _; exact hR
  | cons x m ih =>
    intro hm
    rw [List.foldl_cons]
    refine ih _ ?_ fun y hy => hm y (List.mem_cons_of_mem _ hy)
    unfold frst1; split
    · rename_i h
      intro r hr
      rcases List.mem_append.1 hr with hr | hr
      · exact hR r hr
      · rw [List.mem_singleton.1 hr]; exact ⟨x, hm x (List.mem_cons_self ..), h.1, rfl⟩
    · exact hR
theorem frst_of {p : Pl} {outs round : Int} {l : List Pkt} {r : Rep} (h : r ∈ frst p outs round l) : ∃ x ∈ l, x.cnt p outs round ∧ r = x.rep := frst_mem l [] (by intro r hr; cases hr) l (fun _ h => h) r h
/-- Nobody is heard twice. -/
theorem frst_once (p : Pl) (outs round : Int) (l : List Pkt) : ∀ R : List Rep, R.Pairwise (fun a b => a.w ≠ b.w) → (l.foldl (frst1 p outs round) R).Pairwise (fun a b => a.w ≠ b.w) := by
  induction l with
  | nil => intro R h; exact h
  | cons x l ih =>
    intro R h
    rw [List.foldl_cons]
    refine ih _ ?_
    unfold frst1; split
    · rename_i q
      rw [List.pairwise_append]
      exact ⟨h, List.pairwise_singleton _ _, fun a ha b hb => by rw [List.mem_singleton.1 hb]; exact hasR_false q.2 a ha⟩
    · exact h
theorem frst_dist {p : Pl} {outs round : Int} {l : List Pkt} {i k : Nat} (hk : k < i) (hi : i < (frst p outs round l).length) : (gt (frst p outs round l) k).w ≠ (gt (frst p outs round l) i).w := by
  have := frst_once p outs round l [] .nil
  rw [gt_eq (by omega), gt_eq hi]
  exact List.pairwise_iff_getElem.1 this k i (Nat.lt_trans hk hi) hi hk
theorem frst_may {p : Pl} {outs round : Int} {l : List Pkt} {r : Rep} (h : r ∈ frst p outs round l) : (0 ≤ r.w ∧ r.w < p.n) ∧ (r.l.length : Int) = outs ∧ inB p.f r.l = true := by
  obtain ⟨x, _, ⟨_, hx⟩, rfl⟩ := frst_of h
  refine ⟨⟨by dsimp only; omega, hx.wn⟩, ?_, ?_⟩
  · dsimp only; rw [rlL_length]; exact hx.n
  · dsimp only; rw [← hx.f]; exact (rlE_in hx.r.msg.list).1
theorem frst_sent {p : Pl} {outs round : Int} {l : List Pkt} {r : Rep} (h : r ∈ frst p outs round l) : ∃ j, j < l.length ∧ (gt l j).a = r.w + 1 ∧ (gt l j).b = 0 := by
  obtain ⟨x, hx, ⟨h0, h1⟩, rfl⟩ := frst_of h
  obtain ⟨j, hj, e⟩ := List.mem_iff_getElem.1 hx
  refine ⟨j, hj, ?_, ?_⟩
  · rw [gt_eq hj, e]; have := h1.wk; dsimp only; omega
  · rw [gt_eq hj, e]; exact h0

end Go.Proofs.Ytilhkgfhhkkolaa.C
