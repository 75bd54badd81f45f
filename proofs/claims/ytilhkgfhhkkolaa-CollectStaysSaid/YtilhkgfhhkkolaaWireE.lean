/- Lists of elements, read. -/
import Derived.Test.YtilhkgfhhkkolaaWireD
namespace Go.Proofs.Ytilhkgfhhkkolaa.C
open Go Go.RowKit Go.Proofs.Ytilhkgfhhkkolaa.AL
set_option maxRecDepth 100000
set_option maxHeartbeats 40000000
set_option linter.unusedVariables false
set_option linter.unusedSimpArgs false

/-- The field, the length, the elements of a list that is read. -/
def rlF (bs : List UInt8) : Int := (gt bs 0).toNat
def rlN (bs : List UInt8) : Nat := numL ((bs.drop 1).take 4)
def rlW (bs : List UInt8) : Nat := 4 * (gt bs 0).toNat
def rlX (bs : List UInt8) (w i : Nat) : Int := numL ((bs.drop (5 + i * w)).take w)
def rlL (bs : List UInt8) : List Int := (List.range (rlN bs)).map (rlX bs (rlW bs))
theorem rlL_length (bs : List UInt8) : (rlL bs).length = rlN bs := by simp [rlL]
theorem gt_rlL {bs : List UInt8} {i : Nat} (h : i < rlN bs) : gt (rlL bs) i = rlX bs (rlW bs) i := by simp [gt, rlL, h]
/-- What is wrong with it; 0: nothing. -/
def rlE (bs : List UInt8) : Int :=
  if bs.length = 0 then 7 else if rlF bs ≠ 1 ∧ rlF bs ≠ 2 then 8 else if bs.length < 5 then 7 else if rlN bs > 2147483647 then 8 else if rlN bs > 4096 then 4
  else if bs.length < 5 + rlN bs * rlW bs then 7 else if inB (rlF bs) (rlL bs) = true then 0 else 8

theorem taker_n4 (bs : List UInt8) (k : Nat) (h : 5 + (k + 1) * 4 ≤ bs.length) (hb : bs.length ≤ 140737488351232) : ACalls prog 51 [.int .i64 4, .ptr 0 0] [.cells [u8s (bs.drop (5 + k * 4))] none]
    fun e h' => e = .ret (.int .u64 (rlX bs 4 k)) ∧ h' = [.cells [u8s (bs.drop (5 + (k + 1) * 4))] none] := by
  have := wire_taker_1.a4 (bs.drop (5 + k * 4)) (by simp; omega) (by simp; omega)
  rw [List.drop_drop, show 5 + k * 4 + 4 = 5 + (k + 1) * 4 by omega] at this
  exact this
theorem taker_n8 (bs : List UInt8) (k : Nat) (h : 5 + (k + 1) * 8 ≤ bs.length) (hb : bs.length ≤ 140737488351232) : ACalls prog 51 [.int .i64 8, .ptr 0 0] [.cells [u8s (bs.drop (5 + k * 8))] none]
    fun e h' => e = .ret (.int .u64 (rlX bs 8 k)) ∧ h' = [.cells [u8s (bs.drop (5 + (k + 1) * 8))] none] := by
  have := wire_taker_1.a8 (bs.drop (5 + k * 8)) (by simp; omega) (by simp; omega)
  rw [List.drop_drop, show 5 + k * 8 + 8 = 5 + (k + 1) * 8 by omega] at this
  exact this

/-- What a reader of lists answers. -/
def rlV (bs : List UInt8) : AV := if rlE bs = 0 then .tup [.int .u8 (rlF bs), u64s (rlL bs), .int .i64 (5 + rlN bs * rlW bs), .int .i64 0] else .tup [.int .u8 0, .lit (.slice none 0 0), .int .i64 0, .int .i64 (rlE bs)]
theorem rlV_err {bs : List UInt8} {e : Int} (h : rlE bs = e) (he : e ≠ 0) : AV.tup [.int .u8 0, .lit (.slice none 0 0), .int .i64 0, .int .i64 e] = rlV bs := by subst h; rw [rlV, if_neg he]
theorem rlV_idLt (bs : List UInt8) : IdLt 0 (rlV bs) := by unfold rlV; split <;> simp

theorem wire_ReadList.c0 (bs : List UInt8) (hb : bs.length ≤ 140737488351232) (h1 : (gt bs 0).toNat ≠ 1) (h2 : (gt bs 0).toNat ≠ 2) : Pure prog 45 [u8s bs] (rlV bs) := by
  have hE : rlE bs = if bs.length = 0 then 7 else 8 := by
    unfold rlE rlF
    by_cases hl : bs.length = 0
    · rw [if_pos hl, if_pos hl]
    · rw [if_neg hl, if_neg hl, if_pos ⟨by omega, by omega⟩]
  have hI : inB (gt bs (Int.toNat 0)).toNat [] = false := by
    have q : pF (gt bs 0).toNat = 0 := by rcases pF_cases ((gt bs 0).toNat : Int) with q | q | q <;> omega
    show (decide (pF (gt bs 0).toNat ≠ 0) && _) = false
    rw [q]; rfl
  refine pure_of_vc wire_ReadList.k (by simp) ?_
  conv => whnf
  repeat' ((first | (with_reducible refine hid_mk ?_) | (with_reducible refine bcase_not ?_) | (with_reducible refine bcase_false (by with_reducible assumption) ?_) | (with_reducible refine bcase_beq (fun hb => ?_) (fun hb => ?_)) | (with_reducible refine Pure.use (field_In.n _) ?_) | (with_reducible refine wfoc_map (by first | omega) ?_) | (with_reducible refine And.intro (by first | with_reducible assumption | omega) ?_)) <;> (conv => whnf))
  all_goals exact fin_pure (rlV_err (by rw [hE]; (repeat' split) <;> first | rfl | omega) (by decide)) (rlV_idLt bs)

theorem wire_ReadList.c1 (bs : List UInt8) (hbs : bs.length ≤ 140737488351232) (hf : (gt bs 0).toNat = 1) : Pure prog 45 [u8s bs] (rlV bs) := by
  have hW : rlW bs = 4 := by simp [rlW, hf]
  have hF : rlF bs = 1 := by simp [rlF, hf]
  have hI : inB 1 [] = true := by decide
  have hf0 : (gt bs (Int.toNat 0)).toNat = 1 := hf
  have hne : bs.length ≠ 0 := by intro q; obtain rfl := List.length_eq_zero_iff.1 q; exact absurd hf (by decide)
  have hE : rlE bs = if bs.length < 5 then 7 else if rlN bs > 2147483647 then 8 else if rlN bs > 4096 then 4 else if bs.length < 5 + rlN bs * 4 then 7 else if inB 1 (rlL bs) = true then 0 else 8 := by
    unfold rlE; rw [hF, hW, if_neg hne]; simp
  have hok : rlE bs = 0 → rlV bs = .tup [.int .u8 1, u64s (rlL bs), .int .i64 (5 + rlN bs * 4), .int .i64 0] := fun h => by simp [rlV, h, hF, hW]
  have herr := fun {e : Int} => rlV_err (bs := bs) (e := e)
  have hLl := rlL_length bs
  have hg := fun k (h : k < rlN bs) => gt_rlL h
  rw [hW] at hg
  have hT := fun h => wire_taker_1.a4 (bs.drop 1) h (by simp; omega)
  have hN : numL ((bs.drop 1).take 4) = rlN bs := rfl
  rw [hN] at hT
  have hid := rlV_idLt bs
  have h44 : rlN bs < 4294967296 := numL_lt4
  have hd1 : (bs.drop 1).length = bs.length - 1 := by simp
  generalize rlV bs = V at hok herr hid ⊢
  generalize rlE bs = E at hE hok herr
  generalize hD1 : bs.drop 1 = D1 at hT hd1
  generalize rlL bs = L at hE hok hLl hg
  generalize rlN bs = n at hE hok hLl hg hT h44
  have hIn := fun h => field_In.a 1 L h
  refine pure_of_vc wire_ReadList.k (by simp) ?_
  conv => whnf
  repeat' ((first | (with_reducible refine hid_mk ?_) | (with_reducible refine bcase_et (by omega) ?_) | (with_reducible refine bcase_ef (by omega) ?_) | (with_reducible refine bcase_dec (fun hb => ?_) (fun hb => ?_)) | (with_reducible refine fin_inl ?_) | (with_reducible refine acalls_of_vc wire_ReadCount.k ?_) | (with_reducible refine acalls_of_vc wire_taker.k ?_) | (with_reducible refine acalls_of_vc wire_width.k ?_) | ((with_reducible refine pure_guard (field_In.n 1) ?_); (refine Pure.useB (field_In.n 1) (.bool _) [] (by (first | ((repeat (first | with_reducible exact RsL.nil | with_reducible refine RsL.cons (Rs.int_eq (by first | rfl | omega)) ?_ | refine RsL.cons (Rs.eq rfl (by first | (simp; done))) ?_)); done) | fail)) ?_)) | (refine wcut_dr 1 (by omega) (by omega) ?_; rw [hD1]) | (refine wcut_dr 5 (by omega) (by omega) ?_) | ((with_reducible refine acalls_guard (hT (by omega)) ?_); (refine ACalls.useN (hT (by omega)) [0] [] (by simp) (by (first | ((repeat (first | with_reducible exact RsL.nil | with_reducible refine RsL.cons (Rs.int_eq (by first | rfl)) ?_ | with_reducible refine RsL.cons (Rs.ptr _ _ _ rfl) ?_)); done) | fail)) ⟨by (first | (refine objR_cells (by simp) rfl ?_; (first | (refine rsl_lit ?_; (conv => whnf); with_reducible refine hid_mk ?_; (repeat (first | with_reducible exact RsL.nil | refine RsL.cons (rs_isl (by simp) (by first | omega)) ?_)); done) | fail)) | fail), trivial⟩ [.cells [u8s (D1.drop 4)] none] (.int .u64 n) (by first | exact .eq rfl (by first | (simp; done)) | fail) ⟨by (first | (refine objR_cells (by simp) rfl ?_; (first | (refine rsl_lit ?_; (conv => whnf); with_reducible refine hid_mk ?_; (repeat (first | with_reducible exact RsL.nil | refine RsL.cons (Rs.eq rfl (by first | exact idLt_mapI (by intro a; simp))) ?_)); done) | fail)) | fail), trivial⟩ ?_)) | (with_reducible refine vblk_same ?_) | (with_reducible refine wnum_i64 (by omega) ?_) | (with_reducible refine wfoc_map (by first | omega) ?_) | (with_reducible refine fin_hb (by kernel_rfl)) | (with_reducible refine And.intro (by first | with_reducible assumption | omega | (simp; done)) ?_) | (with_reducible refine And.intro (fin_el ?_) ?_)) <;> (conv => whnf))
  all_goals try exact fin_pure (herr (by rw [hE]; (repeat' split) <;> first | rfl | omega | (simp_all; done)) (by decide)) hid
  refine vloopN 0 [1] [0] wire_ReadList.D0 (fun k : Nat => [(49, .int .i64 k), (3, ownV 1 ((L).take k))]) (fun k => [.cells [u8s (bs.drop (5 + k * 4))] none] ++ ownO (AV.int .u64) 1 ((L).take k)) (fun k => k ≤ n) (fun k => n - k) 0 (by omega) (by decide) (by simp) ?_ ([u8s bs, .wild, .int .u8 1, .wild, .wild, .int .i64 0, .int .i64 n, .int .i64 5, .fn (.func 51) [] [.ptr 0 0]] ++ List.replicate 39 .wild ++ [.int .i64 n] ++ List.replicate 22 .wild) ?_ ?_
  · simp only [List.take_zero, ownO_nil, List.append_nil]
    exact ⟨by (first | (refine objR_cells (by simp) rfl ?_; (first | (refine rsl_lit ?_; (conv => whnf); with_reducible refine hid_mk ?_; (repeat (first | with_reducible exact RsL.nil | refine RsL.cons (rs_isl (by simp) (by first | (simp; omega))) ?_)); done) | fail)) | fail), trivial⟩
  · simp only [List.take_zero, ownV_nil]
    (with_reducible refine rsl_force ?_); (conv => whnf); (with_reducible refine hid_mk ?_); (repeat (first | with_reducible exact RsL.nil | with_reducible refine RsL.cons (Rs.wild _) ?_ | with_reducible refine RsL.cons (Rs.int_eq (by first | rfl | omega)) ?_ | refine RsL.cons (Rs.eq rfl (by first | exact idLt_mapI (by intro a; simp) | (simp; done))) ?_ | refine RsL.cons (rs_fnL (by refine rsl_lit ?_; (conv => whnf); (refine hid_mk ?_); (repeat (first | exact RsL.nil))) (by refine rsl_lit ?_; (conv => whnf); (refine hid_mk ?_); (repeat (first | exact RsL.nil | refine RsL.cons (Rs.ptr _ _ _ rfl) ?_)))) ?_))
  rintro k h1 Q' hn hx
  try dsimp only at h1 ⊢
  have hsn := fun h : k < n => (show (L).take (k + 1) = (L).take k ++ [_] from (take_gt (l := L) (j := k) (by omega)).trans (congrArg (fun x => (L).take k ++ [x]) (hg k h)))
  have hlk : ((L).take k).length = k := by rw [List.length_take]; omega
  have hTL := fun h : n ≤ k => (show (L).take k = L from List.take_of_length_le (by omega))
  by_cases hT : (L).take k = []
  · have hk0 : k = 0 := by rw [hT] at hlk; exact hlk.symm
    rw [hT] at hsn
    simp only [hT, ownV_nil, ownO_nil]
    have hTk := fun h => taker_n4 bs k h hbs
    conv => whnf
    repeat' ((first | (with_reducible refine hid_mk ?_) | (with_reducible refine bcase_not ?_) | (with_reducible refine bcase_dec (fun hb => ?_) (fun hb => ?_)) | (with_reducible refine bcase_mk (fun hb => ?_) (fun hb => ?_)) | (with_reducible refine hx _ _ _ rfl ?_) | (with_reducible refine fin_inl ?_) | (with_reducible refine acalls_of_vc wire_width.k ?_) | ((with_reducible refine acalls_guard (hTk (by omega)) ?_); (refine ACalls.useN (hTk (by omega)) [0] [] (by simp) (by (first | ((repeat (first | with_reducible exact RsL.nil | with_reducible refine RsL.cons (Rs.int_eq (by first | rfl)) ?_ | with_reducible refine RsL.cons (Rs.ptr _ _ _ rfl) ?_)); done) | fail)) ⟨by (first | (refine objR_cells (by simp) rfl ?_; (first | (refine rsl_lit ?_; (conv => whnf); with_reducible refine hid_mk ?_; (repeat (first | with_reducible exact RsL.nil | refine RsL.cons (Rs.eq rfl (by first | exact idLt_mapI (by intro a; simp))) ?_)); done) | fail)) | fail), trivial⟩ [.cells [u8s (bs.drop (5 + (k + 1) * 4))] none] (.int .u64 (rlX bs 4 k)) (by first | exact .eq rfl (by first | (simp; done)) | fail) ⟨by (first | (refine objR_cells (by simp) rfl ?_; (first | (refine rsl_lit ?_; (conv => whnf); with_reducible refine hid_mk ?_; (repeat (first | with_reducible exact RsL.nil | refine RsL.cons (Rs.eq rfl (by first | exact idLt_mapI (by intro a; simp))) ?_)); done) | fail)) | fail), trivial⟩ ?_)) | ((with_reducible refine pure_guard (hIn (by omega)) ?_); (refine Pure.useB (hIn (by omega)) (.bool _) [] (.cons (.int_eq (by omega)) (.cons (rs_nilM ((hTL (by omega)).symm.trans hT)) .nil)) ?_)) | (with_reducible refine vblk_same ?_) | (with_reducible refine wnum_i64 (by omega) ?_) | (with_reducible refine wcut_all (by first | (simp; done)) ?_) | (with_reducible refine ask_mk (by first | with_reducible assumption | omega) ?_) | (with_reducible refine fin_hb (by kernel_rfl)) | (with_reducible refine And.intro (by first | with_reducible assumption | (simp; done)) ?_) | (with_reducible refine And.intro (fin_el ?_) ?_)) <;> (conv => whnf))
    all_goals first
      | (((refine hn (k + 1) (by omega) (by omega) _ _ (.inr (next_fin (fun ts h => [0, tsId ts 3 0]) ?_))); (simp only [hsn (by omega), ownV_snoc, ownO_snoc]); (conv => whnf); (refine hid_mk ⟨⟨?_, ?_, trivial⟩, ?_⟩); (all_goals first | (first | (refine objR_cells (by simp) rfl ?_; (first | (refine rsl_lit ?_; (conv => whnf); with_reducible refine hid_mk ?_; (repeat (first | with_reducible exact RsL.nil | refine RsL.cons (Rs.eq rfl (by first | exact idLt_mapI (by intro a; simp))) ?_)); done) | fail)) | exact objR_same (by simp) rfl (by first | rfl | fail) (by first | (simp; done)) | fail) | ((with_reducible refine rsl_force ?_); (conv => whnf); (with_reducible refine hid_mk ?_); (repeat (first | with_reducible exact RsL.nil | with_reducible refine RsL.cons (Rs.wild _) ?_ | with_reducible refine RsL.cons (Rs.int_eq (by first | rfl | omega)) ?_ | with_reducible refine RsL.cons (Rs.slice_eq rfl (by first | rfl) (by first | rfl | (simp; done)) (by first | rfl | (simp; done))) ?_ | refine RsL.cons (Rs.eq rfl (by first | exact idLt_mapI (by intro a; simp))) ?_ | refine RsL.cons (rs_fnL (by refine rsl_lit ?_; (conv => whnf); (refine hid_mk ?_); (repeat (first | exact RsL.nil))) (by refine rsl_lit ?_; (conv => whnf); (refine hid_mk ?_); (repeat (first | exact RsL.nil | refine RsL.cons (Rs.ptr _ _ _ rfl) ?_)))) ?_))))); done)
      | (first | exact fin_pure (herr (by rw [hE]; (repeat' split) <;> first | rfl | omega | (simp_all; done)) (by decide)) hid | (rw [hok (by rw [hE]; (repeat' split) <;> first | rfl | omega | (simp_all; done))]; exact fin_rs [] (Rs.tupL (.cons (.int_eq (by omega)) (.cons (rs_nilM ((hTL (by omega)).symm.trans hT)) (.cons (.int_eq (by omega)) (.cons (.int_eq rfl) .nil)))))); done)
      | fail
  · simp only [ownV_ne hT, ownO_ne hT, hlk]
    have hTk := fun h => taker_n4 bs k h hbs
    conv => whnf
    repeat' ((first | (with_reducible refine hid_mk ?_) | (with_reducible refine bcase_not ?_) | (with_reducible refine bcase_dec (fun hb => ?_) (fun hb => ?_)) | (with_reducible refine bcase_mk (fun hb => ?_) (fun hb => ?_)) | (with_reducible refine hx _ _ _ rfl ?_) | (with_reducible refine fin_inl ?_) | (with_reducible refine acalls_of_vc wire_width.k ?_) | ((with_reducible refine acalls_guard (hTk (by omega)) ?_); (refine ACalls.useN (hTk (by omega)) [0] [] (by simp) (by (first | ((repeat (first | with_reducible exact RsL.nil | with_reducible refine RsL.cons (Rs.int_eq (by first | rfl)) ?_ | with_reducible refine RsL.cons (Rs.ptr _ _ _ rfl) ?_)); done) | fail)) ⟨by (first | (refine objR_cells (by simp) rfl ?_; (first | (refine rsl_lit ?_; (conv => whnf); with_reducible refine hid_mk ?_; (repeat (first | with_reducible exact RsL.nil | refine RsL.cons (Rs.eq rfl (by first | exact idLt_mapI (by intro a; simp))) ?_)); done) | fail)) | fail), trivial⟩ [.cells [u8s (bs.drop (5 + (k + 1) * 4))] none] (.int .u64 (rlX bs 4 k)) (by first | exact .eq rfl (by first | (simp; done)) | fail) ⟨by (first | (refine objR_cells (by simp) rfl ?_; (first | (refine rsl_lit ?_; (conv => whnf); with_reducible refine hid_mk ?_; (repeat (first | with_reducible exact RsL.nil | refine RsL.cons (Rs.eq rfl (by first | exact idLt_mapI (by intro a; simp))) ?_)); done) | fail)) | fail), trivial⟩ ?_)) | ((with_reducible refine pure_guard (hIn (by omega)) ?_); (refine Pure.useB (hIn (by omega)) (.bool _) [1] (.cons (.int_eq (by omega)) (.cons (rs_slice (by simp) rfl (by rw [hTL (by omega)]) (by omega) (by simp)) .nil)) ?_)) | (with_reducible refine vblk_same ?_) | (with_reducible refine wnum_i64 (by omega) ?_) | (with_reducible refine wcut_all (by first | (simp; done)) ?_) | (with_reducible refine wcat_map (by first | with_reducible assumption | omega) ?_) | (with_reducible refine wroom_grow (by omega) ?_) | (with_reducible refine ask_mk (by first | with_reducible assumption | omega | (refine ⟨by first | omega | (simp; done) | (simp; omega), by first | rfl | (simp [AV.isCell]; done) | (simp; omega)⟩)) ?_) | (with_reducible refine fin_hb (by kernel_rfl)) | (with_reducible refine And.intro (by first | with_reducible assumption | (simp; done)) ?_) | (with_reducible refine And.intro (fin_el ?_) ?_)) <;> (conv => whnf))
    all_goals first
      | (((refine hn (k + 1) (by omega) (by omega) _ _ (.inr (next_fin (fun ts h => [0, tsId ts 3 0]) ?_))); (simp only [hsn (by omega), ownV_snoc, ownO_snoc]); (conv => whnf); (refine hid_mk ⟨⟨?_, ?_, trivial⟩, ?_⟩); (all_goals first | (first | (refine objR_cells (by simp) rfl ?_; (first | (refine rsl_lit ?_; (conv => whnf); with_reducible refine hid_mk ?_; (repeat (first | with_reducible exact RsL.nil | refine RsL.cons (Rs.eq rfl (by first | exact idLt_mapI (by intro a; simp))) ?_)); done) | fail)) | exact objR_same (by simp) rfl (by first | rfl | fail) (by first | exact idLt_map.2 (fun _ _ => by simp)) | fail) | ((with_reducible refine rsl_force ?_); (conv => whnf); (with_reducible refine hid_mk ?_); (repeat (first | with_reducible exact RsL.nil | with_reducible refine RsL.cons (Rs.wild _) ?_ | with_reducible refine RsL.cons (Rs.int_eq (by first | rfl | omega)) ?_ | with_reducible refine RsL.cons (Rs.slice_eq rfl (by first | rfl) (by first | rfl | omega) (by first | rfl | omega)) ?_ | refine RsL.cons (Rs.eq rfl (by first | exact idLt_mapI (by intro a; simp))) ?_ | refine RsL.cons (rs_fnL (by refine rsl_lit ?_; (conv => whnf); (refine hid_mk ?_); (repeat (first | exact RsL.nil))) (by refine rsl_lit ?_; (conv => whnf); (refine hid_mk ?_); (repeat (first | exact RsL.nil | refine RsL.cons (Rs.ptr _ _ _ rfl) ?_)))) ?_))))); done)
      | (first | exact fin_pure (herr (by rw [hE]; (repeat' split) <;> first | rfl | omega | (simp_all; done)) (by decide)) hid | (rw [hok (by rw [hE]; (repeat' split) <;> first | rfl | omega | (simp_all; done))]; exact fin_rs [1] (Rs.tupL (.cons (.int_eq (by omega)) (.cons (rs_slice (by simp) rfl (by rw [hTL (by omega)]) (by omega) (by simp)) (.cons (.int_eq (by omega)) (.cons (.int_eq rfl) .nil)))))); done)
      | fail


end Go.Proofs.Ytilhkgfhhkkolaa.C
