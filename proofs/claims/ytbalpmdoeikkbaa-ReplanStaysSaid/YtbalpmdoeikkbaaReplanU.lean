/- Layer 28: the law ReplanStays. -/
import Derived.Test.YtbalpmdoeikkbaaReplanO
namespace Go.Proofs.Ytbalpmdoeikkbaa.C
open Go Go.RowKit Go.Proofs.Ytbalpmdoeikkbaa.AL

theorem notIn_one (x : Int) : ∀ {L : List Int} {a : Int}, rising a L = true → L.length ≤ (notIn [x] L).length + 1
  | [], _, _ => by simp
  | y :: ys, a, h => by
    simp only [rising, Bool.and_eq_true, decide_eq_true_eq] at h
    by_cases e : y = x
    · subst e
      have : notIn [y] (y :: ys) = ys := by
        rw [notIn, List.filter_cons_of_neg (by simp)]
        refine List.filter_eq_self.2 fun z hz => ?_
        have := rising_mem h.2 z hz
        have : z ≠ y := by omega
        simp [this]
      rw [this]; simp
    · have : notIn [x] (y :: ys) = y :: notIn [x] ys := by rw [notIn, List.filter_cons_of_pos (by simp [e])]; rfl
      rw [this]
      have := notIn_one x h.2
      simp only [List.length_cons]; omega
theorem notIn_many : ∀ (l : List Int) {L : List Int} {a : Int}, rising a L = true → L.length ≤ (notIn l L).length + l.length
  | [], L, a, _ => by rw [notIn_nil]; simp
  | x :: l, L, a, h => by
    have h1 := notIn_one x h
    have h2 := notIn_many l (rising_filter (fun y => !([x] : List Int).contains y) (Int.le_refl a) h)
    have e : notIn l (notIn [x] L) = notIn (x :: l) L := notIn_notIn [x] l L
    have e' : (L.filter fun y => !([x] : List Int).contains y) = notIn [x] L := rfl
    rw [e', e] at h2
    simp only [List.length_cons]; omega

theorem Pl.stays {p : Pl} (h : p.accept = 0) (l : List Int) (hl : (l.length : Int) ≤ p.e) : p.may = true ∧ p.excl p.all l = (p.less (p.all.length - (notIn l p.all).length), notIn l p.all, 0) ∧ (p.less (p.all.length - (notIn l p.all).length)).accept = 0 := by
  obtain ⟨hm, hs⟩ := Pl.accept_zero.1 h
  have ha := Pl.all_alive hm
  have hM := Pl.may_iff.1 hm
  have hr : rising (-1) p.all = true := by
    simp only [Pl.alive, Bool.and_eq_true] at ha; exact ha.1
  have h1 := notIn_many l hr
  have h2 := notIn_le l p.all
  have hd := Pl.deg_bd hm
  have hac : (p.less (p.all.length - (notIn l p.all).length)).accept = 0 := by
    rw [Pl.accept_zero]
    have hdd : (p.less (p.all.length - (notIn l p.all).length)).deg = p.deg := rfl
    simp only [Pl.spare] at hs
    refine ⟨Pl.may_less hm (by omega) (by omega), ?_⟩
    simp only [Pl.spare, hdd]
    simp only [Pl.less]
    omega
  exact ⟨hm, Pl.excl_mk hm ha hac, hac⟩

theorem fidx_spec (x : Int) : ∀ (l : List Int) (k : Nat), (l.contains x = true ∧ ∃ i : Nat, i < l.length ∧ fidx x k l = k + i ∧ gt l i = x) ∨ (l.contains x = false ∧ fidx x k l = -1)
  | [], k => .inr ⟨rfl, rfl⟩
  | y :: ys, k => by
    rw [fidx]
    by_cases e : x = y
    · subst e
      exact .inl ⟨by simp, 0, by simp, by simp, rfl⟩
    · rw [if_neg e]
      rcases fidx_spec x ys (k + 1) with ⟨h1, i, h2, h3, h4⟩ | ⟨h1, h2⟩
      · refine .inl ⟨by simp at h1; simp [h1], i + 1, by simpa using h2, by rw [h3]; push_cast; omega, ?_⟩
        simpa [gt] using h4
      · refine .inr ⟨?_, h2⟩
        simp at h1 ⊢
        exact ⟨e, h1⟩
theorem here_spec (l : List Int) (x : Int) : (l.contains x = true ∧ (here l x).2 = true ∧ ∃ i : Nat, i < l.length ∧ (here l x).1 = i ∧ gt l i = x) ∨ (l.contains x = false ∧ (here l x).2 = false ∧ (here l x).1 = 0) := by
  unfold here
  rcases fidx_spec x l 0 with ⟨h1, i, h2, h3, h4⟩ | ⟨h1, h2⟩
  · refine .inl ⟨h1, ?_, i, h2, ?_, h4⟩
    · simp [h3]
    · simp [h3]
  · exact .inr ⟨h1, by simp [h2], by rw [h2]; rfl⟩
theorem notIn_contains {p : Pl} (l : List Int) {i : Nat} (h : (i : Int) < p.n) : (notIn l p.all).contains (i : Int) = !l.contains (i : Int) := by
  have hm : (i : Int) ∈ p.all := by simp only [Pl.all, List.mem_map, List.mem_range]; exact ⟨i, by omega, rfl⟩
  cases hc : l.contains (i : Int)
  · simp only [Bool.not_false]
    simp [notIn, hm] at hc ⊢
    exact hc
  · simp only [Bool.not_true]
    simp [notIn] at hc ⊢
    intro _; exact hc

end Go.Proofs.Ytbalpmdoeikkbaa.C
