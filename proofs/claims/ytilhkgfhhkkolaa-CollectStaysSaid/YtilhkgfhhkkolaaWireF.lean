/- The document's reader of lists. -/
import Derived.Test.YtilhkgfhhkkolaaWireE
namespace Go.Proofs.Ytilhkgfhhkkolaa.C
open Go Go.RowKit Go.Proofs.Ytilhkgfhhkkolaa.AL
set_option maxRecDepth 100000
set_option maxHeartbeats 40000000
set_option linter.unusedVariables false
set_option linter.unusedSimpArgs false

/-- Is there an element among the first that is none? -/
def eK (f : Int) (L : List Int) (k : Nat) : Int := if inB f (L.take k) = true then 0 else 8
theorem inB_snoc (f : Int) (l : List Int) (x : Int) : inB f (l ++ [x]) = (inB f l && inB f [x]) := by
  simp only [inB, List.all_append]
  cases decide (pF f ≠ 0) <;> cases (l.all fun x => decide (x < pF f)) <;> simp
theorem eK_ok {f : Int} {L : List Int} {k : Nat} (h : k < L.length) (h0 : eK f L k = 0) (h1 : inB f [gt L k] = true) : eK f L (k + 1) = 0 := by
  unfold eK at *; rw [take_gt h, inB_snoc, h1]
  split at h0
  · rename_i q; simp [q]
  · cases h0
theorem eK_no {f : Int} {L : List Int} {k : Nat} (h : k < L.length) (h1 : inB f [gt L k] = false) : eK f L (k + 1) = 8 := by
  unfold eK; rw [take_gt h, inB_snoc, h1]; simp
theorem eK_8 {f : Int} {L : List Int} {k : Nat} (h : eK f L k ≠ 0) : eK f L k = 8 ∧ inB f L = false := by
  unfold eK at *
  split at h
  · exact absurd rfl h
  · rename_i q
    refine ⟨by rw [if_neg q], ?_⟩
    rw [Bool.eq_false_iff]; intro r
    apply q
    simp only [inB, Bool.and_eq_true, List.all_eq_true] at r ⊢
    exact ⟨r.1, fun x hx => r.2 x (List.mem_of_mem_take hx)⟩
theorem eK_len {f : Int} {L : List Int} {k : Nat} (h : L.length ≤ k) (h0 : eK f L k = 0) : inB f L = true := by
  unfold eK at h0; rw [List.take_of_length_le h] at h0
  split at h0
  · assumption
  · cases h0
theorem wfoc_mapE {α : Type} [Inhabited α] {l : List α} {f : α → AV} {n : Nat} {K : List AV → Prop} {x : AV} (hx : f (gt l n) = x) (hn : n < l.length) (k : K [x]) : wfoc (l.map f) n 1 K := wfoc_map hn (by rw [hx]; exact k)
theorem eK_zero {f : Int} {L : List Int} (h : inB f [] = true) : eK f L 0 = 0 := by simp [eK, h]

theorem ref08_ReadList.c0 (bs : List UInt8) (hb : bs.length ≤ 140737488351232) (h1 : (gt bs 0).toNat ≠ 1) (h2 : (gt bs 0).toNat ≠ 2) : Pure prog 26 [u8s bs] (rlV bs) := by
  have hE : rlE bs = if bs.length = 0 then 7 else 8 := by
    unfold rlE rlF
    by_cases hl : bs.length = 0
    · rw [if_pos hl, if_pos hl]
    · rw [if_neg hl, if_neg hl, if_pos ⟨by omega, by omega⟩]
  have h1' : (gt bs (Int.toNat 0)).toNat ≠ 1 := h1
  have h2' : (gt bs (Int.toNat 0)).toNat ≠ 2 := h2
  refine pure_of_vc ref08_ReadList.k (by simp) ?_
  conv => whnf
  repeat' ((first | (with_reducible refine hid_mk ?_) | (with_reducible refine bcase_nt (by omega) ?_) | (with_reducible refine bcase_beq (fun hb => ?_) (fun hb => ?_)) | (with_reducible refine wfoc_map (by first | omega) ?_) | (with_reducible refine And.intro (by first | with_reducible assumption | omega) ?_)) <;> (conv => whnf))
  all_goals exact fin_pure (rlV_err (by rw [hE]; (repeat' split) <;> first | rfl | omega) (by decide)) (rlV_idLt bs)

theorem ref08_ReadList.c1 (bs : List UInt8) (hbs : bs.length ≤ 140737488351232) (hf : (gt bs 0).toNat = 1) : Pure prog 26 [u8s bs] (rlV bs) := by
  have hW : rlW bs = 4 := by simp [rlW, hf]
  have hF : rlF bs = 1 := by simp [rlF, hf]
  have hI : inB 1 [] = true := by decide
  have hf0 : (gt bs (Int.toNat 0)).toNat = 1 := hf
  have hx0 : byt (gt bs (Int.toNat 0)) = .int .u8 1 := by show AV.int .u8 (((gt bs (Int.toNat 0)).toNat : Nat) : Int) = _; rw [hf0]; rfl
  have hne : bs.length ≠ 0 := by intro q; obtain rfl := List.length_eq_zero_iff.1 q; exact absurd hf (by decide)
  have hE : rlE bs = if bs.length < 5 then 7 else if rlN bs > 2147483647 then 8 else if rlN bs > 4096 then 4 else if bs.length < 5 + rlN bs * 4 then 7 else if inB 1 (rlL bs) = true then 0 else 8 := by
    unfold rlE; rw [hF, hW, if_neg hne]; simp
  have hok : rlE bs = 0 → rlV bs = .tup [.int .u8 1, u64s (rlL bs), .int .i64 (5 + rlN bs * 4), .int .i64 0] := fun h => by simp [rlV, h, hF, hW]
  have herr := fun {e : Int} => rlV_err (bs := bs) (e := e)
  have hLl := rlL_length bs
  have hg := fun k (h : k < rlN bs) => gt_rlL h
  rw [hW] at hg
  have hT := ref08_Taken.a ((bs.drop 1).take 4) (by simp; omega)
  have hN : numL ((bs.drop 1).take 4) = rlN bs := rfl
  rw [hN] at hT
  have hid := rlV_idLt bs
  have h44 : rlN bs < 4294967296 := numL_lt4
  generalize rlV bs = V at hok herr hid ⊢
  generalize rlE bs = E at hE hok herr
  generalize rlL bs = L at hE hok hLl hg
  generalize rlN bs = n at hE hok hLl hg hT h44
  have hIn := fun k => ref01_In.a 1 [gt L k] (by simp)
  have hbad : n ≤ 4096 → 5 + n * 4 ≤ bs.length → inB 1 L = false → E = 8 := fun q1 q2 q => by rw [hE, if_neg (by omega), if_neg (by omega), if_neg (by omega), if_neg (by omega), q]; rfl
  have hgood : n ≤ 4096 → 5 + n * 4 ≤ bs.length → inB 1 L = true → E = 0 := fun q1 q2 q => by rw [hE, if_neg (by omega), if_neg (by omega), if_neg (by omega), if_neg (by omega), q]; rfl
  refine pure_of_vc ref08_ReadList.k (by simp) ?_
  conv => whnf
  by_cases hA : bs.length < 5 ∨ n > 4096 ∨ bs.length < 5 + n * 4
  · repeat' ((first | (with_reducible refine hid_mk ?_) | (with_reducible refine bcase_dt (by omega) ?_) | (with_reducible refine bcase_ef (by omega) ?_) | (with_reducible refine bcase_dec (fun hb => ?_) (fun hb => ?_)) | (with_reducible refine fin_inl ?_) | (with_reducible refine acalls_of_vc ref08_ReadCount.k ?_) | (with_reducible refine acalls_of_vc ref08_width.k ?_) | (with_reducible refine wfoc_mapE hx0 (by omega) ?_) | (refine wcut_dr 1 (by omega) (by omega) ?_) | (refine wcut_tk 4 (by omega) (by omega) ?_) | ((with_reducible refine pure_guard (hT) ?_); (refine Pure.useB (hT) (.int .u64 n) [] (by (first | ((repeat (first | with_reducible exact RsL.nil | refine RsL.cons (rs_isl (by simp) (by first | (simp; omega))) ?_)); done) | fail)) ?_)) | (with_reducible refine vloop_roll ?_) | (with_reducible refine vblk_same ?_) | (with_reducible refine wnum_i64 (by omega) ?_) | (with_reducible refine And.intro (by first | with_reducible assumption | omega | (simp; done)) ?_)) <;> (conv => whnf))
    all_goals exact fin_pure (herr (by rw [hE]; (repeat' split) <;> first | rfl | omega | (simp_all; done)) (by decide)) hid
  repeat' ((first | (with_reducible refine hid_mk ?_) | (with_reducible refine bcase_df (by omega) ?_) | (with_reducible refine bcase_ef (by omega) ?_) | (with_reducible refine fin_inl ?_) | (with_reducible refine acalls_of_vc ref08_ReadCount.k ?_) | (with_reducible refine acalls_of_vc ref08_width.k ?_) | (with_reducible refine wfoc_mapE hx0 (by omega) ?_) | (refine wcut_dr 1 (by omega) (by omega) ?_) | (refine wcut_tk 4 (by omega) (by omega) ?_) | ((with_reducible refine pure_guard (hT) ?_); (refine Pure.useB (hT) (.int .u64 n) [] (by (first | ((repeat (first | with_reducible exact RsL.nil | refine RsL.cons (rs_isl (by simp) (by first | (simp; omega))) ?_)); done) | fail)) ?_)) | (with_reducible refine vblk_same ?_) | (with_reducible refine wnum_i64 (by omega) ?_) | (with_reducible refine And.intro (by first | with_reducible assumption | omega | (simp; done)) ?_)) <;> (conv => whnf))
  refine vloopW ref08_ReadList.D0 (fun k : Nat => [(8, .int .i64 (5 + (k : Int) * 4)), (9, .int .i64 (eK 1 L k)), (11, .int .i64 k), (10, ownV 0 ((L).take k))]) (fun k => ownO (AV.int .u64) 1 ((L).take k)) (fun k => k ≤ n) (fun k => n - k) 0 (by omega) rfl ?_ ?_
  · (with_reducible refine wk_force ?_); (conv => whnf); (with_reducible refine hid_mk ?_); (repeat (first | with_reducible refine Wk.wild ?_ | refine Wk.cons (by first | with_reducible rfl | exact congrArg (AV.int _) (by first | (first | exact (eK_zero hI).symm | fail) | rfl) | rfl | fail) ?_)); with_reducible exact Wk.nil
  rintro k h1 Q' hn hx
  try dsimp only at h1 ⊢
  have hsn := fun h : k < n => (show (L).take (k + 1) = (L).take k ++ [_] from (take_gt (l := L) (j := k) (by omega)).trans (congrArg (fun x => (L).take k ++ [x]) (hg k h)))
  have hlk : ((L).take k).length = k := by rw [List.length_take]; omega
  have hTL := fun h : n ≤ k => (show (L).take k = L from List.take_of_length_le (by omega))
  by_cases hT : (L).take k = []
  · have hk0 : k = 0 := by rw [hT] at hlk; exact hlk.symm
    rw [hT] at hsn
    simp only [hT, ownV_nil, ownO_nil]
    have hTk : k < n → Pure prog 27 [u8s ((bs.drop (5 + k * 4)).take 4)] (.int .u64 (rlX bs 4 k)) := fun h => ref08_Taken.a ((bs.drop (5 + k * 4)).take 4) (by simp; omega)
    conv => whnf
    repeat' ((first | (with_reducible refine hid_mk ?_) | (with_reducible refine bcase_not ?_) | (with_reducible refine bcase_nt (by omega) ?_) | (with_reducible refine bcase_dec (fun hb => ?_) (fun hb => ?_)) | (with_reducible refine bcase_beq (fun hb => ?_) (fun hb => ?_)) | (with_reducible refine bcase_bne (fun hb => ?_) (fun hb => ?_)) | (with_reducible refine bcase_mk (fun hb => ?_) (fun hb => ?_)) | (with_reducible refine hx _ _ _ rfl ?_) | (with_reducible refine fin_inl ?_) | (with_reducible refine acalls_of_vc ref08_width.k ?_) | (refine wcut_md (5 + k * 4) 4 (by omega) (by omega) ?_) | ((with_reducible refine pure_guard (hTk (by omega)) ?_); (refine Pure.useB (hTk (by omega)) (.int .u64 (rlX bs 4 k)) [] (by (first | ((repeat (first | with_reducible exact RsL.nil | refine RsL.cons (rs_isl (by simp) (by first | (simp; omega))) ?_)); done) | fail)) ?_)) | ((with_reducible refine pure_guard (hIn k) ?_); (refine Pure.useB (hIn k) (.bool _) [0] (.cons (.int_eq (by omega)) (.cons (rs_slice (by decide) rfl (by rw [hg k (by omega)]; rfl) rfl (by simp)) .nil)) ?_)) | (with_reducible refine vblk_same ?_) | (with_reducible refine wnum_i64 (by omega) ?_) | (with_reducible refine wcut_all (by first | (simp; done)) ?_) | (with_reducible refine ask_mk (by first | with_reducible assumption | omega) ?_) | (with_reducible refine And.intro (by first | with_reducible assumption | omega | (simp; done)) ?_)) <;> (conv => whnf))
    all_goals first
      | (((refine hn (k + 1) (by omega) (by omega) _ _ (.inr (next_fin (fun ts h => [tsId ts 10 0]) ?_))); (simp only [hsn (by omega), ownV_snoc, ownO_snoc]); (conv => whnf); (refine hid_mk ⟨⟨?_, trivial⟩, ?_⟩); (all_goals first | (first | exact objR_same (by simp) rfl (by first | rfl | fail) (by first | (simp; done)) | fail) | ((with_reducible refine rsl_force ?_); (conv => whnf); (with_reducible refine hid_mk ?_); (repeat (first | with_reducible exact RsL.nil | with_reducible refine RsL.cons (Rs.wild _) ?_ | with_reducible refine RsL.cons (Rs.int_eq (by first | (first | exact (eK_no (by omega) (by assumption)).symm | exact (by assumption : eK 1 L k = 0).trans (eK_ok (by omega) (by assumption) (by assumption)).symm | fail) | rfl | omega)) ?_ | with_reducible refine RsL.cons (Rs.slice_eq rfl (by first | rfl) (by first | rfl | (simp; done)) (by first | rfl | (simp; done))) ?_ | refine RsL.cons (Rs.eq rfl (by first | exact idLt_mapI (by intro a; simp) | (simp; done))) ?_))))); done)
      | (first | exact fin_pure (herr ((hbad (by omega) (by omega) (eK_8 (by assumption : eK 1 L k ≠ 0)).2).trans (eK_8 (by assumption : eK 1 L k ≠ 0)).1.symm) (by assumption)) hid | (rw [hok (hgood (by omega) (by omega) (eK_len (k := k) (by omega) (by assumption)))]; exact fin_rs [] (Rs.tupL (.cons (.int_eq (by omega)) (.cons (rs_nilM ((hTL (by omega)).symm.trans hT)) (.cons (.int_eq (by omega)) (.cons (.int_eq rfl) .nil)))))); done)
      | fail
  · simp only [ownV_ne hT, ownO_ne hT, hlk]
    have hTk : k < n → Pure prog 27 [u8s ((bs.drop (5 + k * 4)).take 4)] (.int .u64 (rlX bs 4 k)) := fun h => ref08_Taken.a ((bs.drop (5 + k * 4)).take 4) (by simp; omega)
    conv => whnf
    repeat' ((first | (with_reducible refine hid_mk ?_) | (with_reducible refine bcase_not ?_) | (with_reducible refine bcase_nt (by omega) ?_) | (with_reducible refine bcase_dec (fun hb => ?_) (fun hb => ?_)) | (with_reducible refine bcase_beq (fun hb => ?_) (fun hb => ?_)) | (with_reducible refine bcase_bne (fun hb => ?_) (fun hb => ?_)) | (with_reducible refine bcase_mk (fun hb => ?_) (fun hb => ?_)) | (with_reducible refine hx _ _ _ rfl ?_) | (with_reducible refine fin_inl ?_) | (with_reducible refine acalls_of_vc ref08_width.k ?_) | (refine wcut_md (5 + k * 4) 4 (by omega) (by omega) ?_) | ((with_reducible refine pure_guard (hTk (by omega)) ?_); (refine Pure.useB (hTk (by omega)) (.int .u64 (rlX bs 4 k)) [] (by (first | ((repeat (first | with_reducible exact RsL.nil | refine RsL.cons (rs_isl (by simp) (by first | (simp; omega))) ?_)); done) | fail)) ?_)) | ((with_reducible refine pure_guard (hIn k) ?_); (refine Pure.useB (hIn k) (.bool _) [1] (.cons (.int_eq (by omega)) (.cons (rs_slice (by decide) rfl (by rw [hg k (by omega)]; rfl) rfl (by simp)) .nil)) ?_)) | (with_reducible refine vblk_same ?_) | (with_reducible refine wnum_i64 (by omega) ?_) | (with_reducible refine wcut_all (by first | (simp; done)) ?_) | (with_reducible refine wcat_map (by first | with_reducible assumption | omega) ?_) | (with_reducible refine wroom_grow (by omega) ?_) | (with_reducible refine ask_mk (by first | with_reducible assumption | omega | (refine ⟨by first | omega | (simp; done) | (simp; omega), by first | rfl | (simp [AV.isCell]; done) | (simp; omega)⟩)) ?_) | (with_reducible refine And.intro (by first | with_reducible assumption | omega | (simp; done)) ?_)) <;> (conv => whnf))
    all_goals first
      | (((refine hn (k + 1) (by omega) (by omega) _ _ (.inr (next_fin (fun ts h => [tsId ts 10 0]) ?_))); (simp only [hsn (by omega), ownV_snoc, ownO_snoc]); (conv => whnf); (refine hid_mk ⟨⟨?_, trivial⟩, ?_⟩); (all_goals first | (first | exact objR_same (by simp) rfl (by first | rfl | fail) (by first | exact idLt_map.2 (fun _ _ => by simp)) | fail) | ((with_reducible refine rsl_force ?_); (conv => whnf); (with_reducible refine hid_mk ?_); (repeat (first | with_reducible exact RsL.nil | with_reducible refine RsL.cons (Rs.wild _) ?_ | with_reducible refine RsL.cons (Rs.int_eq (by first | (first | exact (eK_no (by omega) (by assumption)).symm | exact (by assumption : eK 1 L k = 0).trans (eK_ok (by omega) (by assumption) (by assumption)).symm | fail) | rfl | omega)) ?_ | with_reducible refine RsL.cons (Rs.slice_eq rfl (by first | rfl) (by first | rfl | omega) (by first | rfl | omega)) ?_ | refine RsL.cons (Rs.eq rfl (by first | exact idLt_mapI (by intro a; simp) | (simp; done))) ?_))))); done)
      | (first | exact fin_pure (herr ((hbad (by omega) (by omega) (eK_8 (by assumption : eK 1 L k ≠ 0)).2).trans (eK_8 (by assumption : eK 1 L k ≠ 0)).1.symm) (by assumption)) hid | (rw [hok (hgood (by omega) (by omega) (eK_len (k := k) (by omega) (by assumption)))]; exact fin_rs [0] (Rs.tupL (.cons (.int_eq (by omega)) (.cons (rs_slice (by simp) rfl (by rw [hTL (by omega)]) (by omega) (by simp)) (.cons (.int_eq (by omega)) (.cons (.int_eq rfl) .nil)))))); done)
      | fail


end Go.Proofs.Ytilhkgfhhkkolaa.C
