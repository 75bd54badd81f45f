/- The law CollectStays, walked. -/
import Derived.Test.YtilhkgfhhkkolaaCollJ
namespace Go.Proofs.Ytilhkgfhhkkolaa.C
open Go Go.RowKit Go.Proofs.Ytilhkgfhhkkolaa.AL
set_option maxRecDepth 100000
set_option maxHeartbeats 40000000
set_option linter.unusedVariables false
set_option linter.unusedSimpArgs false

theorem wrem_tm {a b : Int} {K : Int → Prop} (h : 0 < b) (q : K (a.tmod b)) : wrem a b K := ⟨by omega, q⟩
theorem rs_islF {h : Heap} {N F : List Nat} {α : Type} {enc : α → List AV} {ex : Bool} {n : Nat} {l : List α} (hc : ∀ a ∈ l, ∀ x ∈ enc a, IdLt 0 x) (hn : n = l.length) : Rs h N F (.islice ex n (l.flatMap enc)) (.islice false l.length (l.flatMap enc)) := by
  subst hn
  exact Rs.isliceL (rsl_flat hc rfl)
theorem wcut_fl0 {α : Type} {enc : α → List AV} {s : Nat} (he : ∀ x, (enc x).length = s) {l : List α} (n : Nat) (R : List α) {a b : Nat} {K : List AV → Prop} (ha : a = 0) (hb : b = n * s) (hR : l.take n = R) (q : K (R.flatMap enc)) : wcut (l.flatMap enc) a b K := by
  subst ha; subst hb; subst hR
  exact ⟨by rw [List.drop_zero, flat_take he]; exact q⟩

theorem force_cut {α : Type} {enc : α → List AV} {s : Nat} (he : ∀ x, (enc x).length = s) {l : List α} (n : Nat) (R : List α) {a b : Nat} {K : List AV → Prop} (hb : b = 0) (ha : a = n * s) (hR : l.take n = R) (q : K (R.flatMap enc)) : forceL (List.take a (List.drop b (l.flatMap enc))) K := by
  subst ha; subst hb; subst hR
  rw [forceL_eq, List.drop_zero, flat_take he]; exact q

/-- The packets ahead: how many. -/
def cutN (c : Int) (m : Nat) : Nat := if m = 0 then 0 else ((c.tmod m + m) % m).toNat
theorem cutN_le (c : Int) (m : Nat) : cutN c m ≤ m := by
  unfold cutN; split
  · omega
  · have h : (0 : Int) < m := by omega
    have := Int.emod_lt_of_pos (c.tmod m + m) h
    have := Int.emod_nonneg (c.tmod m + m) (show (m : Int) ≠ 0 by omega)
    omega

set_option maxRecDepth 1000000
theorem law25_CollectStays.b (hA : Pure prog 11 [] (.bool true)) (p : Pl) (outs round c : Int) (l : List Pkt) (hc : ¬ cMay p outs round) :
    Pure prog 4 [p.v, by3 outs round c, pkts l] (.bool true) := by
  have hargs : ∀ a ∈ [p.v, by3 outs round c, pkts l], IdLt 0 a := List.forall_mem_cons.2 ⟨by simp, List.forall_mem_cons.2 ⟨by simp, List.forall_mem_cons.2 ⟨idLt_fl (by intro a _; simp), by simp⟩⟩⟩
  have hX := collect_First.b p outs round l hc
  refine pure_of_vc law25_CollectStays.k hargs ?_
  conv => whnf
  repeat' ((first | (with_reducible refine hid_mk ?_) | ((with_reducible refine pure_guard (hX) ?_); (refine Pure.use0 (hX) (by (first | ((repeat (first | with_reducible exact RsL.nil | with_reducible refine RsL.cons (Rs.int_eq (by first | rfl)) ?_ | refine RsL.cons (Rs.eq rfl (by first | (simp; done) | exact idLt_fl (by intro a _; simp))) ?_)); done) | fail)) ?_)) | ((with_reducible refine pure_guard (hA) ?_); (refine Pure.use0 (hA) (by (first | ((repeat (first | with_reducible exact RsL.nil)); done) | fail)) ?_)) | (refine wald_lit rfl ?_) | (with_reducible refine And.intro (by first | with_reducible assumption | omega) ?_)) <;> (conv => whnf))
  all_goals exact fin_pure rfl (by simp)

theorem law25_CollectStays.s (hA : Pure prog 11 [] (.bool true)) (p : Pl) (outs round c : Int) (l : List Pkt) (hf : p.Fok) (hl : l.length ≤ 3518437208781) (hbs : ∀ x ∈ l, I64 x.a ∧ x.bs.length ≤ 140737488351232) (hc : cMay p outs round) (hl0 : l.length ≠ 0) :
    Pure prog 4 [p.v, by3 outs round c, pkts l] (.bool true) := by
  have hargs : ∀ a ∈ [p.v, by3 outs round c, pkts l], IdLt 0 a := List.forall_mem_cons.2 ⟨by simp, List.forall_mem_cons.2 ⟨by simp, List.forall_mem_cons.2 ⟨idLt_fl (by intro a _; simp), by simp⟩⟩⟩
  have hX := collect_First.s p outs round l hl (fun x h => (hbs x h).2) hc
  have hn1 : -(l.length : Int) < c.tmod l.length ∧ c.tmod l.length < l.length := ⟨Int.lt_tmod_of_pos _ (by omega), Int.tmod_lt_of_pos _ (by omega)⟩
  have hn2 : 0 ≤ (c.tmod l.length + l.length) % (l.length : Int) ∧ (c.tmod l.length + l.length) % (l.length : Int) < l.length := ⟨Int.emod_nonneg _ (by omega), Int.emod_lt_of_pos _ (by omega)⟩
  have hpre := frst_pre p outs round l ((c.tmod l.length + l.length) % (l.length : Int)).toNat
  have hY := collect_First.s p outs round (l.take ((c.tmod l.length + l.length) % (l.length : Int)).toNat) (by rw [List.length_take]; omega) (fun x h => (hbs x (List.mem_of_mem_take h)).2) hc
  have hYl := frst_len (p := p) (outs := outs) (round := round) l ((c.tmod l.length + l.length) % (l.length : Int)).toNat (by omega)
  have hRl := frst_len (p := p) (outs := outs) (round := round) l l.length (Nat.le_refl _)
  rw [List.take_length] at hRl
  have hRm := fun (i : Nat) (h : i < (frst p outs round l).length) => frst_may (gt_mem h)
  have hRs := fun (i : Nat) (h : i < (frst p outs round l).length) => frst_sent (gt_mem h)
  have hRd := fun (i k : Nat) (h : k < i) (h' : i < (frst p outs round l).length) => frst_dist h h'
  have hS := law25_same.a (frst p outs round (l.take ((c.tmod l.length + l.length) % (l.length : Int)).toNat)) (by omega) (fun r hr => by have h1 := (frst_may hr).2.1; have h2 := hc.2.1; omega)
  have hpn := (Pl.may_iff.1 hc.1).2.1
  generalize frst p outs round (l.take ((c.tmod l.length + l.length) % (l.length : Int)).toNat) = Y at hpre hY hYl hS
  generalize frst p outs round l = R at hX hpre hRl hRm hRs hRd
  refine pure_of_vc law25_CollectStays.k hargs ?_
  conv => whnf
  repeat' ((first | (with_reducible refine hid_mk ?_) | (with_reducible refine bcase_dt (by omega) ?_) | (with_reducible refine bcase_df (by omega) ?_) | ((with_reducible refine pure_guard (hX) ?_); (refine Pure.use0 (hX) (by (first | ((repeat (first | with_reducible exact RsL.nil | with_reducible refine RsL.cons (Rs.int_eq (by first | rfl)) ?_ | refine RsL.cons (Rs.eq rfl (by first | (simp; done) | exact idLt_fl (by intro a _; simp))) ?_)); done) | fail)) ?_)) | ((with_reducible refine pure_guard (hS) ?_); (refine Pure.use0 (hS) (by (first | ((repeat (first | with_reducible exact RsL.nil | refine RsL.cons (Rs.eq rfl (by first | exact idLt_fl (by intro a _; simp))) ?_)); done) | fail)) ?_)) | (with_reducible refine wrem_tm (a := c) (by omega) ?_) | (refine fin_mk (by rw [flat_len (s := 3) (by intro _; rfl)])) | (refine fin_mk (by rw [flat_len (s := 2) (by intro _; rfl)])) | (refine force_cut (s := 3) (by intro _; rfl) ((c.tmod l.length + l.length) % (l.length : Int)).toNat _ (by first | rfl) (by first | omega) rfl ?_) | (refine force_cut (s := 2) (by intro _; rfl) Y.length Y (by first | rfl) (by first | rfl) hpre.2 ?_) | ((with_reducible refine pure_guard hY ?_); (refine Pure.use0 hY (.cons (.eq rfl (by simp)) (.cons (.int_eq rfl) (.cons (.int_eq rfl) (.cons (rs_islF (by intro a _; simp) (by rw [List.length_take]; omega)) .nil)))) ?_)) | (with_reducible refine vblk_same ?_) | (with_reducible refine wnum_i64 (by omega) ?_) | (with_reducible refine wrem_nn (by omega) ?_) | (refine wald_lit rfl ?_) | (with_reducible refine wcut_lit ?_) | (with_reducible refine And.intro (by first | with_reducible assumption | omega) ?_) | (with_reducible refine And.intro (fin_el ?_) ?_)) <;> (conv => whnf))
  clear hX hY hS hn1 hn2 hargs
  refine vloopW law25_CollectStays.D0 (fun i : Nat => [(12, .int .i64 i)]) (fun _ => [.cells p.cells none, .cells [.int .i64 outs, .int .i64 round, .int .i64 c] none]) (fun i => i ≤ R.length) (fun i => R.length - i) 0 (by omega) rfl ?_ ?_
  · (with_reducible refine wk_force ?_); (conv => whnf); (with_reducible refine hid_mk ?_); (repeat (first | with_reducible refine Wk.wild ?_ | refine Wk.cons (by first | with_reducible rfl | exact congrArg (AV.int _) (by first | rfl) | fail) ?_)); with_reducible exact Wk.nil
  rintro i hi Q' hn hx
  try dsimp only at hi ⊢
  by_cases hiR : i < R.length
  · obtain ⟨hw, hlo, hin⟩ := hRm i hiR
    obtain ⟨j0, hj0, hja, hjb⟩ := hRs i hiR
    have hRd := fun (k : Nat) (h : k < i) => hRd i k h hiR
    have hMR := ref18_MayReply.t p outs (gt R i) hf hc.1 hc.2.1 hw hlo hin
    conv => whnf
    repeat' ((first | (with_reducible refine hid_mk ?_) | (with_reducible refine bcase_dt (by omega) ?_) | (with_reducible refine vblk_same ?_)) <;> (conv => whnf))
    refine vloopW law25_CollectStays.D1 (fun s : Nat × Bool => [(13, .bool s.2), (14, .int .i64 s.1)]) (fun _ => [.cells p.cells none, .cells [.int .i64 outs, .int .i64 round, .int .i64 c] none]) (fun s => s.1 ≤ l.length ∧ (j0 < s.1 → s.2 = true)) (fun s => l.length - s.1) (0, false) (by simp) rfl ?_ ?_
    · (with_reducible refine wk_force ?_); (conv => whnf); (with_reducible refine hid_mk ?_); (repeat (first | with_reducible refine Wk.wild ?_ | refine Wk.cons (by first | with_reducible rfl | exact congrArg (AV.int _) (by first | rfl) | fail) ?_)); with_reducible exact Wk.nil
    rintro ⟨k, s⟩ ⟨hk, hs⟩ Q2 hn2 hx2
    try dsimp only at hk hs ⊢
    by_cases hkl : k < l.length
    · cases s with
      | true =>
        conv => whnf
        repeat' ((first | (with_reducible refine hid_mk ?_) | (with_reducible refine bcase_dt (by omega) ?_) | (with_reducible refine vblk_same ?_) | (with_reducible refine wnum_i64 (by omega) ?_)) <;> (conv => whnf))
        all_goals exact hn2 (k + 1, true) ⟨by dsimp only; omega, fun _ => rfl⟩ (by dsimp only; omega) _ _ (.inl ⟨rfl, by (with_reducible refine wk_force ?_); (conv => whnf); (with_reducible refine hid_mk ?_); (repeat (first | with_reducible refine Wk.wild ?_ | refine Wk.cons (by first | with_reducible rfl | exact congrArg (AV.int _) (by first | rfl) | fail) ?_)); with_reducible exact Wk.nil⟩)
      | false =>
        have e1 : j0 < k + 1 → ((gt l k).b == 0) = true := by
          intro h
          have e : j0 = k := by
            by_cases q : j0 < k
            · exact absurd (hs q) (by decide)
            · omega
          subst e; simp [hjb]
        have e2 : (gt l k).a ≠ (gt R i).w + 1 → j0 < k + 1 → False := by
          intro h h'
          have e : j0 = k := by
            by_cases q : j0 < k
            · exact absurd (hs q) (by decide)
            · omega
          subst e; exact h hja
        have hjk : k ≤ j0 := by by_cases h : j0 < k; (exact absurd (hs h) (by decide)); omega
        conv => whnf
        repeat' ((first | (with_reducible refine hid_mk ?_) | (with_reducible refine bcase_dt (by omega) ?_) | (with_reducible refine bcase_beq (fun hb => ?_) (fun hb => ?_)) | (with_reducible refine vblk_same ?_) | (with_reducible refine wnum_i64 (by omega) ?_) | (with_reducible refine wfoc_flatc (by intro _; with_unfolding_all rfl) (by first | with_reducible assumption) ?_) | (with_reducible refine And.intro (by first | with_reducible assumption | omega) ?_)) <;> (conv => whnf))
        all_goals first
          | exact hn2 (k + 1, (gt l k).b == 0) ⟨by dsimp only; omega, e1⟩ (by dsimp only; omega) _ _ (.inl ⟨rfl, by (with_reducible refine wk_force ?_); (conv => whnf); (with_reducible refine hid_mk ?_); (repeat (first | with_reducible refine Wk.wild ?_ | refine Wk.cons (by first | with_reducible rfl | exact congrArg (AV.int _) (by first | rfl) | fail) ?_)); with_reducible exact Wk.nil⟩)
          | exact hn2 (k + 1, false) ⟨by dsimp only; omega, fun h => (e2 (by assumption) h).elim⟩ (by dsimp only; omega) _ _ (.inl ⟨rfl, by (with_reducible refine wk_force ?_); (conv => whnf); (with_reducible refine hid_mk ?_); (repeat (first | with_reducible refine Wk.wild ?_ | refine Wk.cons (by first | with_reducible rfl | exact congrArg (AV.int _) (by first | rfl) | fail) ?_)); with_reducible exact Wk.nil⟩)
          | fail
    · obtain rfl : s = true := hs (by omega)
      conv => whnf
      repeat' ((first | (with_reducible refine hid_mk ?_) | (with_reducible refine bcase_df (by omega) ?_) | (with_reducible refine hx2 _ _ _ rfl ?_) | (with_reducible refine vblk_same ?_)) <;> (conv => whnf))
      refine vloopW law25_CollectStays.D2 (fun k : Nat => [(13, .bool true), (15, .int .i64 k)]) (fun _ => [.cells p.cells none, .cells [.int .i64 outs, .int .i64 round, .int .i64 c] none]) (fun k => k ≤ i) (fun k => i - k) 0 (by omega) rfl ?_ ?_
      · (with_reducible refine wk_force ?_); (conv => whnf); (with_reducible refine hid_mk ?_); (repeat (first | with_reducible refine Wk.wild ?_ | refine Wk.cons (by first | with_reducible rfl | exact congrArg (AV.int _) (by first | rfl) | fail) ?_)); with_reducible exact Wk.nil
      rintro m hm Q3 hn3 hx
      try dsimp only at hm ⊢
      have hne := fun h : m < i => (show ((gt R m).w != (gt R i).w) = true by simpa using hRd m h)
      conv => whnf
      repeat' ((first | (with_reducible refine hid_mk ?_) | (with_reducible refine bcase_dec (fun hb => ?_) (fun hb => ?_)) | (with_reducible refine hx _ _ _ rfl ?_) | ((with_reducible refine pure_guard (hMR) ?_); (refine Pure.use0 (hMR) (by (first | ((repeat (first | with_reducible exact RsL.nil | with_reducible refine RsL.cons (Rs.int_eq (by first | rfl)) ?_ | refine RsL.cons (Rs.eq rfl (by first | (simp; done))) ?_)); done) | fail)) ?_)) | (with_reducible refine vblk_same ?_) | (with_reducible refine wnum_i64 (by omega) ?_) | (with_reducible refine wfoc_flatc (by intro _; with_unfolding_all rfl) (by first | with_reducible assumption | omega) ?_) | (refine wald_lit rfl ?_) | (with_reducible refine And.intro (by first | with_reducible assumption | omega) ?_)) <;> (conv => whnf))
      all_goals first
        | (rw [hne (by omega)]; exact hn3 (m + 1) (by omega) (by omega) _ _ (.inl ⟨rfl, by (with_reducible refine wk_force ?_); (conv => whnf); (with_reducible refine hid_mk ?_); (repeat (first | with_reducible refine Wk.wild ?_ | refine Wk.cons (by first | with_reducible rfl | exact congrArg (AV.int _) (by first | rfl) | fail) ?_)); with_reducible exact Wk.nil⟩))
        | exact hn (i + 1) (by omega) (by omega) _ _ (.inl ⟨rfl, by (with_reducible refine wk_force ?_); (conv => whnf); (with_reducible refine hid_mk ?_); (repeat (first | with_reducible refine Wk.wild ?_ | refine Wk.cons (by first | with_reducible rfl | exact congrArg (AV.int _) (by first | rfl) | fail) ?_)); with_reducible exact Wk.nil⟩)
        | (((refine hn (i + 1) (by omega) (by omega) _ _ (.inr (next_fin (fun ts h => [0, 1]) ?_))); (simp only [List.map_nil]); (conv => whnf); (refine hid_mk ⟨⟨?_, ?_, trivial⟩, ?_⟩); (all_goals first | (first | fail) | ((with_reducible refine rsl_force ?_); (conv => whnf); (with_reducible refine hid_mk ?_); (repeat (first | fail))))); done)
        | fail
  · conv => whnf
    repeat' ((first | (with_reducible refine hid_mk ?_) | (with_reducible refine bcase_df (by omega) ?_) | (with_reducible refine hx _ _ _ rfl ?_) | ((with_reducible refine pure_guard (hA) ?_); (refine Pure.use0 (hA) (by (first | ((repeat (first | with_reducible exact RsL.nil)); done) | fail)) ?_))) <;> (conv => whnf))
    all_goals exact fin_pure rfl (by simp)

theorem law25_CollectStays.z (hA : Pure prog 11 [] (.bool true)) (p : Pl) (outs round c : Int) (hc : cMay p outs round) :
    Pure prog 4 [p.v, by3 outs round c, .islice false 0 []] (.bool true) := by
  have hX := collect_First.s p outs round [] (by simp) (by intro x h; cases h) hc
  have hS := law25_same.a [] (by simp) (by intro x h; cases h)
  rw [frst_nil] at hX
  rw [show pkts [] = .islice false 0 [] from rfl, show reps [] = .islice false 0 [] from rfl] at hX
  rw [show reps [] = .islice false 0 [] from rfl] at hS
  refine pure_of_vc law25_CollectStays.k (by simp) ?_
  conv => whnf
  repeat' ((first | (with_reducible refine hid_mk ?_) | ((with_reducible refine pure_guard hX ?_); (refine Pure.use0 hX (.cons (.eq rfl (by simp)) (.cons (.int_eq rfl) (.cons (.int_eq rfl) (.cons (.islice _ _ _ _ _ (fun q => by cases q) rfl (by intro j x y q; simp at q)) .nil)))) ?_)) | ((with_reducible refine pure_guard hS ?_); (refine Pure.useB hS (.bool _) [] (.cons (.islice _ _ _ _ _ (fun q => by cases q) rfl (by intro j x y q; simp at q)) (.cons (.islice _ _ _ _ _ (fun q => by cases q) rfl (by intro j x y q; simp at q)) .nil)) ?_)) | ((with_reducible refine pure_guard (hA) ?_); (refine Pure.use0 (hA) (by (first | ((repeat (first | with_reducible exact RsL.nil)); done) | fail)) ?_)) | (with_reducible refine vloop_roll ?_) | (with_reducible refine vblk_same ?_) | (refine wald_lit rfl ?_) | (with_reducible refine wcut_lit ?_) | (with_reducible refine And.intro (by first | with_reducible assumption | omega | (simp; done)) ?_)) <;> (conv => whnf))
  all_goals exact fin_pure rfl (by simp)

theorem law25_CollectStays.a (hA : Pure prog 11 [] (.bool true)) (p : Pl) (outs round c : Int) (l : List Pkt) (hf : p.Fok) (hl : l.length ≤ 3518437208781) (hbs : ∀ x ∈ l, I64 x.a ∧ x.bs.length ≤ 140737488351232) :
    Pure prog 4 [p.v, by3 outs round c, pkts l] (.bool true) := by
  by_cases hc : cMay p outs round
  · by_cases hl0 : l.length = 0
    · obtain rfl := List.length_eq_zero_iff.1 hl0
      exact law25_CollectStays.z hA p outs round c hc
    · exact law25_CollectStays.s hA p outs round c l hf hl hbs hc hl0
  · exact law25_CollectStays.b hA p outs round c l hc

set_option maxRecDepth 100000 in
theorem CollectStays.w (cz : List AV) (b : Nat) (h : ArgsOk prog 20 [24, 25, 26] cz b) : Pure prog 4 cz (.bool true) := by
  obtain ⟨a, a', a'', _, _, _, rfl, _, h1, h2, h3⟩ := args3 h
  obtain ⟨p, hp, rfl⟩ := arg_plan h1
  obtain ⟨x, y, z, rfl, _, _, _⟩ := arg_by3 h2
  obtain ⟨l, rfl, hl, hb⟩ := arg_pkts h3
  exact law25_CollectStays.a law25_anchored.a p x y z l hp.f hl hb

end Go.Proofs.Ytilhkgfhhkkolaa.C
