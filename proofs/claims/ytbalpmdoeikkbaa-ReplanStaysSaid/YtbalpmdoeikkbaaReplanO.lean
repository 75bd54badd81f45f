/- Layer 28: excluded one by one or at once, the plain law. -/
import Derived.Test.YtbalpmdoeikkbaaReplanH
namespace Go.Proofs.Ytbalpmdoeikkbaa.C
open Go Go.RowKit Go.Proofs.Ytbalpmdoeikkbaa.AL

theorem rising_filter (f : Int → Bool) : ∀ {l : List Int} {a b : Int}, b ≤ a → rising a l = true → rising b (l.filter f) = true
  | [], _, _, _, _ => rfl
  | y :: ys, a, b, hab, h => by
    simp only [rising, Bool.and_eq_true, decide_eq_true_eq] at h
    rw [List.filter_cons]
    split
    · simp only [rising, Bool.and_eq_true, decide_eq_true_eq]
      exact ⟨⟨by omega, h.1.2⟩, rising_filter f (Int.le_refl _) h.2⟩
    · exact rising_filter f (by omega) h.2

/-- Those that do not stand in a list. -/
def notIn (fa : List Int) (l : List Int) : List Int := l.filter fun x => !fa.contains x
theorem kept_notIn {al fa : List Int} (h : ∀ x ∈ al, 0 ≤ x ∧ x < 64) : kept (marksOf fa) al = notIn fa al := by
  refine List.filter_congr fun x hx => ?_
  rw [marked_marksOf fa x (h x hx)]

/-- An exclusion that is accepted. -/
theorem Pl.excl_ok {p : Pl} {al fa : List Int} (h : (p.excl al fa).2.2 = 0) : p.may = true ∧ p.alive al = true ∧ p.excl al fa = (p.less (al.length - (notIn fa al).length), notIn fa al, 0) ∧ (p.less (al.length - (notIn fa al).length)).accept = 0 := by
  unfold Pl.excl at h ⊢
  by_cases hm : p.may = true
  · by_cases ha : p.alive al = true
    · have hk := kept_notIn (fa := fa) (Pl.alive_mem ha).1
      rw [hk] at h ⊢
      simp only [hm, ha, Bool.and_self, if_true] at h ⊢
      split at h
      · rename_i hw
        rw [if_pos hw]
        split at h
        · rename_i hac
          rw [if_pos hac]
          have hwl : p.without (al.length - (notIn fa al).length) = (p.less (al.length - (notIn fa al).length), 0) := by
            unfold Pl.without at hw ⊢
            split
            · rfl
            · rename_i q; rw [if_neg q] at hw; simp at hw
          rw [hwl] at hac ⊢
          exact ⟨trivial, trivial, rfl, hac⟩
        · rename_i q; exact absurd h q
      · rename_i q; exact absurd h q
    · simp [ha] at h
  · simp [hm] at h
/-- It is accepted, where the plan behind it is. -/
theorem Pl.excl_mk {p : Pl} {al fa : List Int} (hm : p.may = true) (ha : p.alive al = true) (hac : (p.less (al.length - (notIn fa al).length)).accept = 0) : p.excl al fa = (p.less (al.length - (notIn fa al).length), notIn fa al, 0) := by
  have hk := kept_notIn (fa := fa) (Pl.alive_mem ha).1
  have hn := (Pl.alive_mem ha).2
  have hle : (notIn fa al).length ≤ al.length := List.length_filter_le _ _
  have hp := Pl.may_iff.1 (Pl.accept_zero.1 hac).1
  have hwl : p.without (al.length - (notIn fa al).length) = (p.less (al.length - (notIn fa al).length), 0) := by
    unfold Pl.without
    rw [if_pos]
    simp only [hm, Bool.true_and, decide_eq_true_eq]
    simp only [Pl.less] at hp
    omega
  unfold Pl.excl
  rw [hk]
  simp only [hm, ha, Bool.and_self, if_true, hwl, hac]

theorem Pl.less_less (p : Pl) {c d : Int} (hc : 0 ≤ c) (hd : 0 ≤ d) : (p.less c).less d = p.less (c + d) := by
  simp only [Pl.less, Pl.mk.injEq, true_and, and_true]
  constructor <;> omega
theorem Pl.less_zero {p : Pl} (h : 0 ≤ p.e) : p.less 0 = p := by
  cases p
  simp only [Pl.less, Pl.mk.injEq, true_and, and_true] at *
  constructor <;> omega
theorem notIn_notIn (a b l : List Int) : notIn b (notIn a l) = notIn (a ++ b) l := by
  rw [notIn, notIn, List.filter_filter, notIn]
  refine List.filter_congr fun x _ => ?_
  cases h1 : a.contains x <;> cases h2 : b.contains x <;> simp_all

theorem notIn_nil (l : List Int) : notIn [] l = l := List.filter_eq_self.2 fun x _ => rfl
theorem notIn_le (fa l : List Int) : (notIn fa l).length ≤ l.length := List.length_filter_le _ _
theorem chainS_err {s : Pl × List Int × Int} (h : s.2.2 ≠ 0) (ts : List (List Int)) : chainS s ts = s := by
  cases ts with
  | nil => rfl
  | cons t ts => rw [chainS, if_neg h]
theorem Pl.may_e {p : Pl} (h : p.may = true) : 0 ≤ p.e := by have := Pl.may_iff.1 h; omega
theorem Pl.alive_less {p : Pl} {al : List Int} (fa : List Int) (h : p.alive al = true) : (p.less (al.length - (notIn fa al).length)).alive (notIn fa al) = true := by
  have hn := (Pl.alive_mem h).2
  simp only [Pl.alive, Bool.and_eq_true, decide_eq_true_eq] at h ⊢
  refine ⟨rising_filter _ (Int.le_refl _) h.1, ?_⟩
  simp only [Pl.less]; omega

theorem chain_once : ∀ (fa : List Int) (p : Pl) (al : List Int), p.may = true → p.alive al = true → (chainS (p, al, 0) (fa.map fun x => [x])).2.2 = 0 →
    chainS (p, al, 0) (fa.map fun x => [x]) = (p.less (al.length - (notIn fa al).length), notIn fa al, 0) ∧ (fa ≠ [] → (p.less (al.length - (notIn fa al).length)).accept = 0)
  | [], p, al, hm, _, _ => by
    rw [notIn_nil, Int.sub_self, Pl.less_zero (Pl.may_e hm)]
    exact ⟨rfl, fun h => absurd rfl h⟩
  | x :: fa, p, al, hm, ha, h => by
    rw [List.map_cons, chainS, if_pos rfl] at h ⊢
    by_cases hx : (p.excl al [x]).2.2 = 0
    · obtain ⟨_, _, he, hac⟩ := Pl.excl_ok hx
      rw [he] at h ⊢
      have ih := chain_once fa _ _ (Pl.accept_zero.1 hac).1 (Pl.alive_less [x] ha) h
      have hnn : notIn fa (notIn [x] al) = notIn (x :: fa) al := notIn_notIn [x] fa al
      have l1 := notIn_le [x] al
      have l2 := notIn_le fa (notIn [x] al)
      have hll : (p.less (al.length - (notIn [x] al).length)).less ((notIn [x] al).length - (notIn fa (notIn [x] al)).length) = p.less (al.length - (notIn (x :: fa) al).length) := by
        rw [Pl.less_less p (by omega) (by omega), hnn]
        congr 1; omega
      rw [hll, hnn] at ih
      refine ⟨ih.1, fun _ => ?_⟩
      by_cases hf : fa = []
      · subst hf; exact hac
      · exact ih.2 hf
    · rw [chainS_err hx] at h
      exact absurd h hx

theorem Pl.all_alive {p : Pl} (hm : p.may = true) : p.alive p.all = true := by
  have hM := Pl.may_iff.1 hm
  have key : ∀ (n k : Nat), k + n ≤ 64 → rising ((k : Int) - 1) ((List.range' k n).map fun i : Nat => (i : Int)) = true := by
    intro n
    induction n with
    | zero => intro k _; rfl
    | succ n ih =>
      intro k hk
      rw [List.range'_succ, List.map_cons]
      simp only [rising, Bool.and_eq_true, decide_eq_true_eq]
      refine ⟨by omega, ?_⟩
      have := ih (k + 1) (by omega)
      simpa using this
  simp only [Pl.alive, Bool.and_eq_true, decide_eq_true_eq]
  refine ⟨?_, by simp [Pl.all]; omega⟩
  have := key p.n.toNat 0 (by omega)
  rw [← List.range_eq_range'] at this
  simpa [Pl.all] using this

theorem Pl.chain_bad {p : Pl} (hm : p.may = false) (ts : List (List Int)) : p.chain ts = (Pl.o, [], 2) := by
  have h0 : p.chain0 = (p, [], 2) := by simp [Pl.chain0, Pl.everybody, hm]
  rw [Pl.chain, h0, chainS_err (by simp)]
  simp
theorem Pl.once (p : Pl) (fa : List Int) (h : (p.chain (fa.map fun x => [x])).2.2 = 0) :
    p.chain [fa] = p.chain (fa.map fun x => [x]) ∨ (fa = [] ∧ (p.chain [fa]).2.2 ≠ 0 ∧ p.accept ≠ 0) := by
  by_cases hm : p.may = true
  · have h0 : p.chain0 = (p, p.all, 0) := by simp [Pl.chain0, Pl.everybody, hm]
    have ha := Pl.all_alive hm
    have hc : (chainS (p, p.all, 0) (fa.map fun x => [x])).2.2 = 0 := by
      unfold Pl.chain at h
      rw [h0] at h
      split at h
      · assumption
      · rename_i q; exact absurd h q
    obtain ⟨e, hac⟩ := chain_once fa p p.all hm ha hc
    have e1 : p.chain (fa.map fun x => [x]) = (p.less (p.all.length - (notIn fa p.all).length), notIn fa p.all, 0) := by
      rw [Pl.chain, h0, if_pos hc, e]
    have e2 : chainS (p, p.all, 0) [fa] = p.excl p.all fa := by simp [chainS]
    by_cases hA : (p.less (p.all.length - (notIn fa p.all).length)).accept = 0
    · left
      rw [e1, Pl.chain, h0, e2, Pl.excl_mk hm ha hA, if_pos rfl]
    · right
      have hf : fa = [] := by
        by_cases q : fa = []
        · exact q
        · exact absurd (hac q) hA
      subst hf
      rw [notIn_nil, Int.sub_self, Pl.less_zero (Pl.may_e hm)] at hA
      refine ⟨rfl, ?_, hA⟩
      intro q
      rw [Pl.chain, h0, e2] at q
      split at q
      · rename_i q2
        obtain ⟨_, _, _, hz⟩ := Pl.excl_ok q2
        rw [notIn_nil, Int.sub_self, Pl.less_zero (Pl.may_e hm)] at hz
        exact hA hz
      · rename_i q2; exact q2 q
  · rw [Pl.chain_bad (by simpa using hm)] at h
    simp at h

end Go.Proofs.Ytbalpmdoeikkbaa.C
