/- Straight-line programs: the law SlpSame. -/
import Derived.Test.YtginchgkbgcimaaDoorSlpU
namespace Go.Proofs.YtginchgkbgcimaaDoor.C
open Go Go.RowKit Go.Proofs.YtginchgkbgcimaaDoor.AL
set_option maxRecDepth 100000
set_option maxHeartbeats 40000000
set_option linter.unusedVariables false
set_option linter.unusedSimpArgs false

/-- 0, 1, .. -/
def idl (n : Nat) : List Int := (List.range n).map (fun i : Nat => (i : Int))
theorem idl_zero : idl 0 = [] := rfl
theorem idl_len (n : Nat) : (idl n).length = n := by simp [idl]
theorem idl_succ (n : Nat) : idl (n + 1) = idl n ++ [(n : Int)] := by simp [idl, List.range_succ]
theorem idl_gt {n i : Nat} (h : i < n) : gt (idl n) i = i := by rw [gt_eq (by rw [idl_len]; exact h)]; simp [idl]
def idP (n : Nat) : SProg := ⟨n, [], idl n⟩
theorem idP_may {n : Nat} (h : n ≤ 64) : SMay (idP n) := by
  refine ⟨by simp [idP]; omega, by simp [idP], by simp [idP, idl_len]; omega, ?_, ?_⟩
  · intro i hi; simp [idP] at hi
  · intro i hi
    simp only [idP, idl_len] at hi
    simp only [idP, idl_gt hi, List.length_nil]
    omega
theorem aft_idP {p : SProg} (hp : SMay p) {n : Nat} (hn : (n : Int) = p.n) : aft p (idP n) = p := by
  have hI : ∀ v : Int, 0 ≤ v → anewI p (idP n) v = v := by
    intro v h0
    by_cases h : v < p.n
    · rw [anewI_lo h]
      simp only [idP]
      rw [idl_gt (by omega)]
      omega
    · rw [anewI_hi h]
      simp only [idP, List.length_nil]
      omega
  have hops : p.ops.map (anewO p (idP n)) = p.ops := by
    rw [List.map_congr_left (g := id) ?_]; exact List.map_id _
    intro o ho
    obtain ⟨i, hi, rfl⟩ := List.mem_iff_getElem.1 ho
    have := hp.ops i hi
    rw [gt_eq hi] at this
    by_cases h4 : (p.ops[i]).k = 4
    · unfold anewO; rw [if_pos h4]; rfl
    · unfold SOp.ok at this
      rw [anewO_n h4 (hI _ (by omega)) (hI _ (by omega))]; rfl
  have houts : p.outs.map (anewI p (idP n)) = p.outs := by
    rw [List.map_congr_left (g := id) ?_]; exact List.map_id _
    intro o ho
    obtain ⟨i, hi, rfl⟩ := List.mem_iff_getElem.1 ho
    have := hp.outs i hi
    rw [gt_eq hi] at this
    exact hI _ this.1
  unfold aft
  rw [hops, houts]
  cases p; simp_all [idP]
theorem aft_idP' {p : SProg} : aft (idP p.outs.length) p = p := by
  have houts : (idl p.outs.length).map (anewI (idP p.outs.length) p) = p.outs := by
    refine gt_ext' (by simp [idl_len]) ?_
    intro i hi
    rw [List.length_map, idl_len] at hi
    have e : gt ((idl p.outs.length).map (anewI (idP p.outs.length) p)) i = anewI (idP p.outs.length) p (gt (idl p.outs.length) i) := by
      rw [gt_eq (by simpa [idl_len] using hi), gt_eq (by rw [idl_len]; exact hi), List.getElem_map]
    rw [e, idl_gt hi, anewI_lo (by simp only [idP]; omega)]
    simp
  unfold aft
  simp only [idP] at houts ⊢
  rw [houts]
  simp
abbrev smTs : List AV := [.wild, .ptr 0 0, .bool false, .ptr 1 0, .ptr 2 0] ++ List.replicate 78 .wild
abbrev smH (p : SProg) (A : List Int) : Heap := [.cells p.cells none, .cells [.int .i64 p.n, .lit (.slice none 0 0), .slice 3 0 A.length A.length] none, .cells [.int .i64 p.outs.length, .lit (.slice none 0 0), .lit (.slice none 0 0)] none, .cells (A.map (.int .i64)) (some 1)]
abbrev smG (p : SProg) (A B : List Int) : Heap := [.cells p.cells none, .cells [.int .i64 p.n, .lit (.slice none 0 0), .slice 3 0 A.length A.length] none, .cells [.int .i64 p.outs.length, .lit (.slice none 0 0), .slice 4 0 B.length B.length] none, .cells (A.map (.int .i64)) (some 1), .cells (B.map (.int .i64)) (some 1)]
def smB : ACode := (blkL 0 law09_SlpSame.c).getD .skip
def smR : ACode := (blkR 0 law09_SlpSame.c).getD .skip
def smB2 : ACode := (blkL 2 law09_SlpSame.c).getD .skip
def smR2 : ACode := (blkR 2 law09_SlpSame.c).getD .skip
abbrev smQ : Post := retQ [RV.tmp 2] (Back 0 fun e h' => e = AEnd.ret (AV.bool true) ∧ h' = [])

set_option maxRecDepth 1000000
theorem SlpSame.lp2 (p : SProg) (hl : p.len) (hp : SMay p) (n : Nat) (hpn : (n : Int) = p.n)
    {ts : List AV} {h : Heap} (N : List Nat) (nd : N.Nodup) (ho : ObjsR (h ++ List.replicate 1 gho) N [] N (smG p (idl n) []))
    (hr : RsL (h ++ List.replicate 1 gho) N [] ts (ovr [(6, .int .i64 (0 : Nat))] (wildAt law09_SlpSame.D1 smTs))) : VLoop 0 (fun Q ts h => AL.hid (vc Tryd.prog 0 smB2 Q ts h)) (blkQ 2 (seqQ (fun ts h => AL.hid (vc Tryd.prog 0 smR2 smQ ts h)) smQ)) ts h := by
  have hA := anchored.q
  have hS := ref09_Same.a p p hl
  rw [decide_eq_true rfl] at hS
  have m1 := hp.n
  have m2 := hp.l
  have m3 := hp.m
  have h1 := slp_After.s p (idP n) hp (idP_may (by omega)) (by simp only [idP, idl_len]; exact hpn) (by simp only [idP, List.length_nil]; omega)
  rw [aft_idP hp hpn] at h1
  have h2 := slp_After.s (idP p.outs.length) p (idP_may m3) hp rfl (by simp only [idP, List.length_nil]; omega)
  rw [aft_idP'] at h2
  refine vloopN 1 N [] law09_SlpSame.D1 (fun j : Nat => [(6, .int .i64 j)]) (fun j => smG p (idl n) (idl j)) (fun j => j ≤ p.outs.length) (fun j => p.outs.length - j) 0 (by omega) nd (by simp) (by simpa only [idl_zero] using ho) smTs hr ?_
  rintro j hj Q2 hn hx
  clear hr ho
  try dsimp only at hj ⊢
  have hsn := idl_succ j
  have hbl := idl_len j
  have hal := idl_len n
  simp only [smG]
  by_cases hjl : j < p.outs.length
  · clear h1 h2
    generalize idl j = B at hsn hbl
    conv => whnf
    repeat' ((first | (with_reducible refine hid_mk ?_) | (with_reducible refine bcase_dt (by omega) ?_) | (with_reducible refine vblk_same ?_) | (with_reducible refine wnum_i64 (by omega) ?_) | (with_reducible refine wcut_all (by first | (simp; done)) ?_) | (with_reducible refine wcat_map (by first | with_reducible assumption | omega) ?_) | (with_reducible refine wroom_grow (by omega) ?_) | (with_reducible refine ask_mk (by first | with_reducible assumption | omega | (refine ⟨by first | omega | (simp; done) | (simp; omega), by first | rfl | (simp [AV.isCell]; done) | (simp; omega)⟩)) ?_) | (with_reducible refine And.intro (by first | with_reducible assumption | (simp; done)) ?_)) <;> (conv => whnf))
    all_goals first
      | (((refine hn (j + 1) (by omega) (by omega) _ _ (.inr (next_fin (fun ts h => [0, 1, 2, 3, slId h 2 2 4]) ?_))); (simp only [smG, hsn, len_snoc']); (conv => whnf); (refine hid_mk ⟨⟨?_, ?_, ?_, ?_, ?_, trivial⟩, ?_⟩); (all_goals first | (first | exact objR_same (by simp) rfl rfl (cells_cl _) | (refine objR_cells (by simp) rfl ?_; (first | (refine rsl_lit ?_; (conv => whnf); with_reducible refine hid_mk ?_; (repeat (first | with_reducible exact RsL.nil | with_reducible refine RsL.cons (Rs.int_eq (by first | rfl)) ?_ | with_reducible refine RsL.cons (Rs.slice_eq rfl (by first | rfl) (by first | rfl) (by first | rfl)) ?_ | refine RsL.cons (Rs.eq rfl (by first | (simp; done))) ?_)); done) | fail)) | exact objR_same (by simp) rfl (by first | rfl | fail) (by first | (simp; done) | exact idLt_map.2 (fun _ _ => by simp)) | fail) | ((with_reducible refine rsl_force ?_); (conv => whnf); (with_reducible refine hid_mk ?_); (repeat (first | with_reducible exact RsL.nil | with_reducible refine RsL.cons (Rs.wild _) ?_ | with_reducible refine RsL.cons (Rs.int_eq (by first | rfl | omega)) ?_ | with_reducible refine RsL.cons (Rs.ptr _ _ _ rfl) ?_ | refine RsL.cons (Rs.eq rfl (by first | (simp; done))) ?_))))); done)
      | (exfalso; omega)
      | fail
  · clear hn
    have hjj : j = p.outs.length := by omega
    subst hjj
    conv => whnf
    repeat' ((first | (with_reducible refine hid_mk ?_) | (with_reducible refine bcase_df (by omega) ?_) | (with_reducible refine hx _ _ _ rfl ?_) | (with_reducible refine Pure.use (hA) ?_) | (with_reducible refine Pure.use (hS) ?_) | ((with_reducible refine pure_guard h1 ?_); (refine Pure.useF h1 [3] (.cons (.eq rfl (sprog_cl p)) (.cons (Rs.aggL (.cons (.int_eq hpn.symm) (.cons (.nil false) (.cons (rs_ownO (O := idl n) rfl (by simp) rfl rfl (by omega)) .nil)))) .nil)) ?_)) | ((with_reducible refine pure_guard h2 ?_); (refine Pure.useF h2 [4] (.cons (Rs.aggL (.cons (.int_eq rfl) (.cons (.nil false) (.cons (rs_ownO (O := idl p.outs.length) rfl (by simp) rfl rfl (by omega)) .nil)))) (.cons (.eq rfl (sprog_cl p)) .nil)) ?_))) <;> (conv => whnf))
    all_goals exact fin_pure rfl (by simp)
theorem SlpSame.lp (p : SProg) (hl : p.len) (hp : SMay p) (n : Nat) (hpn : (n : Int) = p.n)
    {ts : List AV} {h : Heap} (N : List Nat) (nd : N.Nodup) (ho : ObjsR (h ++ List.replicate 1 gho) N [] N (smH p []))
    (hr : RsL (h ++ List.replicate 1 gho) N [] ts (ovr [(5, .int .i64 (0 : Nat))] (wildAt law09_SlpSame.D0 smTs))) : VLoop 0 (fun Q ts h => AL.hid (vc Tryd.prog 0 smB Q ts h)) (blkQ 0 (seqQ (fun ts h => AL.hid (vc Tryd.prog 0 smR smQ ts h)) smQ)) ts h := by
  have m1 := hp.n
  refine vloopN 1 N [] law09_SlpSame.D0 (fun j : Nat => [(5, .int .i64 j)]) (fun j => smH p (idl j)) (fun j => j ≤ n) (fun j => n - j) 0 (by omega) nd (by simp) (by simpa only [idl_zero] using ho) smTs hr ?_
  rintro k hk Q' hn hx
  clear hr ho
  try dsimp only at hk ⊢
  have hsn := idl_succ k
  have hal := idl_len k
  simp only [smH]
  by_cases hkl : k < n
  · generalize idl k = A at hsn hal
    conv => whnf
    repeat' ((first | (with_reducible refine hid_mk ?_) | (with_reducible refine bcase_dt (by omega) ?_) | (with_reducible refine vblk_same ?_) | (with_reducible refine wnum_i64 (by omega) ?_) | (with_reducible refine wcut_all (by first | (simp; done)) ?_) | (with_reducible refine wcat_map (by first | with_reducible assumption | omega) ?_) | (with_reducible refine wroom_grow (by omega) ?_) | (with_reducible refine ask_mk (by first | with_reducible assumption | omega | (refine ⟨by first | omega | (simp; done) | (simp; omega), by first | rfl | (simp [AV.isCell]; done) | (simp; omega)⟩)) ?_) | (with_reducible refine And.intro (by first | with_reducible assumption | (simp; done)) ?_)) <;> (conv => whnf))
    all_goals first
      | (((refine hn (k + 1) (by omega) (by omega) _ _ (.inr (next_fin (fun ts h => [0, 1, 2, slId h 1 2 3]) ?_))); (simp only [smH, hsn, len_snoc']); (conv => whnf); (refine hid_mk ⟨⟨?_, ?_, ?_, ?_, trivial⟩, ?_⟩); (all_goals first | (first | exact objR_same (by simp) rfl rfl (cells_cl _) | (refine objR_cells (by simp) rfl ?_; (first | (refine rsl_lit ?_; (conv => whnf); with_reducible refine hid_mk ?_; (repeat (first | with_reducible exact RsL.nil | with_reducible refine RsL.cons (Rs.int_eq (by first | rfl)) ?_ | with_reducible refine RsL.cons (Rs.slice_eq rfl (by first | rfl) (by first | rfl) (by first | rfl)) ?_ | refine RsL.cons (Rs.eq rfl (by first | (simp; done))) ?_)); done) | fail)) | exact objR_same (by simp) rfl (by first | rfl | fail) (by first | exact idLt_map.2 (fun _ _ => by simp)) | fail) | ((with_reducible refine rsl_force ?_); (conv => whnf); (with_reducible refine hid_mk ?_); (repeat (first | with_reducible exact RsL.nil | with_reducible refine RsL.cons (Rs.wild _) ?_ | with_reducible refine RsL.cons (Rs.int_eq (by first | rfl | omega)) ?_ | with_reducible refine RsL.cons (Rs.ptr _ _ _ rfl) ?_ | refine RsL.cons (Rs.eq rfl (by first | (simp; done))) ?_))))); done)
      | (exfalso; omega)
      | fail
  · clear hn
    have hkk : k = n := by omega
    subst hkk
    conv => whnf
    repeat' ((first | (with_reducible refine hid_mk ?_) | (with_reducible refine bcase_df (by omega) ?_) | (with_reducible refine hx _ _ _ rfl ?_) | (with_reducible refine vblk_same ?_)) <;> (conv => whnf))
    refine SlpSame.lp2 p hl hp k hpn [0, 1, 2, 3, 4] (by decide) ?_ ?_
    · simp only [smG]
      refine ⟨?_, ?_, ?_, ?_, ?_, trivial⟩
      all_goals (first | exact objR_vac rfl | exact objR_same (by simp) rfl rfl (cells_cl _) | (refine objR_cells (by simp) rfl ?_; (first | (refine rsl_lit ?_; (conv => whnf); with_reducible refine hid_mk ?_; (repeat (first | with_reducible exact RsL.nil | with_reducible refine RsL.cons (Rs.int_eq (by first | rfl)) ?_ | with_reducible refine RsL.cons (Rs.slice_eq rfl (by first | rfl) (by first | rfl) (by first | rfl)) ?_ | refine RsL.cons (Rs.nilS _ _ rfl (by simp)) ?_ | refine RsL.cons (Rs.eq rfl (by first | (simp; done))) ?_)); done) | fail)) | exact objR_same (by simp) rfl (by first | rfl | fail) (by first | (simp; done)) | fail)
    · (with_reducible refine rsl_force ?_); (conv => whnf); (with_reducible refine hid_mk ?_); (repeat (first | with_reducible exact RsL.nil | with_reducible refine RsL.cons (Rs.wild _) ?_ | with_reducible refine RsL.cons (Rs.int_eq (by first | rfl | omega)) ?_ | with_reducible refine RsL.cons (Rs.ptr _ _ _ rfl) ?_ | refine RsL.cons (Rs.eq rfl (by first | (simp; done))) ?_))

theorem law09_SlpSame.a (p : SProg) (hl : p.len) : Pure prog 7 [p.v] (.bool true) := by
  have hA := anchored.q
  by_cases hp : SMay p
  · have hM := ref09_May.t p hp
    have m1 := hp.n
    have m3 := hp.m
    refine pure_of_vc law09_SlpSame.k (List.forall_mem_cons.2 ⟨sprog_cl p, by simp⟩) ?_
    conv => whnf
    repeat' ((first | (with_reducible refine hid_mk ?_) | (with_reducible refine both_mk rfl ?_) | (with_reducible refine alts_mk ?_ ?_) | (with_reducible refine Pure.use (hM) ?_) | (with_reducible refine vblk_same ?_)) <;> (conv => whnf))
    all_goals
      first
      | (refine SlpSame.lp p hl hp p.n.toNat (by omega) [0, 1, 2, 3] (by decide) ?_ ?_
         · simp only [smH]
           refine ⟨?_, ?_, ?_, ?_, trivial⟩
           all_goals (first | exact objR_vac rfl | exact objR_same (by simp) rfl rfl (cells_cl _) | (refine objR_cells (by simp) rfl ?_; (first | (refine rsl_lit ?_; (conv => whnf); with_reducible refine hid_mk ?_; (repeat (first | with_reducible exact RsL.nil | with_reducible refine RsL.cons (Rs.int_eq (by first | rfl)) ?_ | refine RsL.cons (Rs.nilS _ _ rfl (by simp)) ?_ | refine RsL.cons (Rs.eq rfl (by first | (simp; done))) ?_)); done) | fail)) | fail)
         · (with_reducible refine rsl_force ?_); (conv => whnf); (with_reducible refine hid_mk ?_); (repeat (first | with_reducible exact RsL.nil | with_reducible refine RsL.cons (Rs.wild _) ?_ | with_reducible refine RsL.cons (Rs.int_eq (by first | rfl | omega)) ?_ | with_reducible refine RsL.cons (Rs.ptr _ _ _ rfl) ?_ | refine RsL.cons (Rs.eq rfl (by first | (simp; done))) ?_))
         done)
      | (refine SlpSame.lp p hl hp p.n.toNat (by omega) [0, 2, 1, 3] (by decide) ?_ ?_
         · simp only [smH]
           refine ⟨?_, ?_, ?_, ?_, trivial⟩
           all_goals (first | exact objR_vac rfl | exact objR_same (by simp) rfl rfl (cells_cl _) | (refine objR_cells (by simp) rfl ?_; (first | (refine rsl_lit ?_; (conv => whnf); with_reducible refine hid_mk ?_; (repeat (first | with_reducible exact RsL.nil | with_reducible refine RsL.cons (Rs.int_eq (by first | rfl)) ?_ | refine RsL.cons (Rs.nilS _ _ rfl (by simp)) ?_ | refine RsL.cons (Rs.eq rfl (by first | (simp; done))) ?_)); done) | fail)) | fail)
         · (with_reducible refine rsl_force ?_); (conv => whnf); (with_reducible refine hid_mk ?_); (repeat (first | with_reducible exact RsL.nil | with_reducible refine RsL.cons (Rs.wild _) ?_ | with_reducible refine RsL.cons (Rs.int_eq (by first | rfl | omega)) ?_ | with_reducible refine RsL.cons (Rs.ptr _ _ _ rfl) ?_ | refine RsL.cons (Rs.eq rfl (by first | (simp; done))) ?_))
         done)
  · have hM := ref09_May.f p hl hp
    have hN := slp_May.f p hl hp
    refine pure_of_vc law09_SlpSame.k (List.forall_mem_cons.2 ⟨sprog_cl p, by simp⟩) ?_
    conv => whnf
    repeat' ((first | (with_reducible refine hid_mk ?_) | (with_reducible refine Pure.use (hM) ?_) | (with_reducible refine Pure.use (hN) ?_) | (with_reducible refine Pure.use (hA) ?_)) <;> (conv => whnf))
    all_goals exact fin_pure rfl (by simp)

theorem SlpSame.w (cz : List AV) (b : Nat) (h : ArgsOk prog 20 [25] cz b) : Pure prog 7 cz (.bool true) := by
  obtain ⟨a, b', rfl, hb, h1⟩ := args1 h
  obtain ⟨p, rfl, hp⟩ := arg_sprog h1
  exact law09_SlpSame.a p hp

end Go.Proofs.YtginchgkbgcimaaDoor.C
