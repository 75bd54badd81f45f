/- Sealed pieces. -/
import Derived.Test.YtilhkgfhhkkolaaWireC
namespace Go.Proofs.Ytilhkgfhhkkolaa.C
open Go Go.RowKit Go.Proofs.Ytilhkgfhhkkolaa.AL
set_option maxRecDepth 100000
set_option maxHeartbeats 40000000
set_option linter.unusedVariables false
set_option linter.unusedSimpArgs false

theorem tup3i {a b : AV} {x y : Int} (e : x = y) : AV.tup [a, b, .int .i64 x] = AV.tup [a, b, .int .i64 y] := by rw [e]
theorem tup2i {a : AV} {x y : Int} (e : x = y) : AV.tup [a, .int .i64 x] = AV.tup [a, .int .i64 y] := by rw [e]
theorem isCells_byt (l : List UInt8) : (l.map byt).all AV.isCell = true := by simp [AV.isCell]
theorem fin_hb {P : Program} {n : Nat} (h : hasBody P n = true) : fin (hasBody P n = true) := fin_mk h
theorem wire_taker_1.a4 (bs : List UInt8) (hl : 4 ≤ bs.length) (hb : bs.length ≤ 140737488351232) : ACalls prog 51 [.int .i64 4, .ptr 0 0] [.cells [u8s bs] none]
    fun e h' => e = .ret (.int .u64 (numL (bs.take 4))) ∧ h' = [.cells [u8s (bs.drop 4)] none] := wire_taker_1.a bs 4 (by omega) (by omega) hb
theorem wire_taker_1.a8 (bs : List UInt8) (hl : 8 ≤ bs.length) (hb : bs.length ≤ 140737488351232) : ACalls prog 51 [.int .i64 8, .ptr 0 0] [.cells [u8s bs] none]
    fun e h' => e = .ret (.int .u64 (numL (bs.take 8))) ∧ h' = [.cells [u8s (bs.drop 8)] none] := wire_taker_1.a bs 8 (by omega) (by omega) hb

/-- What is wrong with a sealed piece; 0: nothing. -/
def unE (bs : List UInt8) : Int :=
  if bs.length < 4 then 7 else if numL (bs.take 4) > 2147483647 then 8 else if numL (bs.take 4) > 1048576 then 4 else if bs.length < numL (bs.take 4) + 12 then 7
  else if (numL ((bs.drop (4 + numL (bs.take 4))).take 8) : Int) = fnv (bs.take (4 + numL (bs.take 4))) then 0 else 80
/-- What it holds. -/
def unI (bs : List UInt8) : List UInt8 := (bs.drop 4).take (numL (bs.take 4))

theorem wire_Unseal.e (bs : List UInt8) (hb : bs.length ≤ 140737488351232) (h : unE bs ≠ 0) : Pure prog 23 [u8s bs] (.tup [.lit (.slice none 0 0), .int .i64 0, .int .i64 (unE bs)]) := by
  unfold unE at h ⊢
  have h44 := numL_lt4 (l := bs)
  have hT := fun h4 => wire_taker_1.a4 bs h4 hb
  generalize hnn : numL (bs.take 4) = n at h h44 hT ⊢
  have hT8 := fun h8 hb8 => wire_taker_1.a8 (bs.drop (4 + n)) h8 hb8
  have hS := wire_Sum.a (bs.take (4 + n)) (by simp; omega)
  have hdl : (bs.drop (4 + n)).length = bs.length - (4 + n) := by simp
  generalize hmm : numL ((bs.drop (4 + n)).take 8) = m at h hT8 ⊢
  generalize fnv (bs.take (4 + n)) = s at h hS ⊢
  generalize hDr : bs.drop (4 + n) = DR at hT8 hdl
  refine pure_of_vc wire_Unseal.k (by simp) ?_
  conv => whnf
  repeat' ((first | (with_reducible refine hid_mk ?_) | (with_reducible refine bcase_nt (by omega) ?_) | (with_reducible refine bcase_dec (fun hb => ?_) (fun hb => ?_)) | (with_reducible refine fin_inl ?_) | (with_reducible refine acalls_of_vc wire_ReadCount.k ?_) | (with_reducible refine acalls_of_vc wire_taker.k ?_) | ((with_reducible refine acalls_guard (hT (by omega)) ?_); (refine ACalls.useN (hT (by omega)) [0] [] (by simp) (by (first | ((repeat (first | with_reducible exact RsL.nil | with_reducible refine RsL.cons (Rs.int_eq (by first | rfl)) ?_ | with_reducible refine RsL.cons (Rs.ptr _ _ _ rfl) ?_)); done) | fail)) ⟨by (first | (refine objR_cells (by simp) rfl ?_; (first | (refine rsl_lit ?_; (conv => whnf); with_reducible refine hid_mk ?_; (repeat (first | with_reducible exact RsL.nil | refine RsL.cons (Rs.eq rfl (by first | exact idLt_mapI (by intro a; simp))) ?_)); done) | fail)) | fail), trivial⟩ [.cells [u8s (bs.drop 4)] none] (.int .u64 n) (by first | exact .eq rfl (by first | (simp; done)) | fail) ⟨by (first | (refine objR_cells (by simp) rfl ?_; (first | (refine rsl_lit ?_; (conv => whnf); with_reducible refine hid_mk ?_; (repeat (first | with_reducible exact RsL.nil | refine RsL.cons (Rs.eq rfl (by first | exact idLt_mapI (by intro a; simp))) ?_)); done) | fail)) | fail), trivial⟩ ?_)) | (refine wcut_dr (4 + n) (by omega) (by omega) ?_; rw [hDr]) | (refine wcut_tk (4 + n) (by omega) (by omega) ?_) | ((with_reducible refine acalls_guard (hT8 (by omega) (by omega)) ?_); (refine ACalls.useN (hT8 (by omega) (by omega)) [1] [] (by simp) (by (first | ((repeat (first | with_reducible exact RsL.nil | with_reducible refine RsL.cons (Rs.int_eq (by first | rfl)) ?_ | with_reducible refine RsL.cons (Rs.ptr _ _ _ rfl) ?_)); done) | fail)) ⟨by (first | (refine objR_cells (by simp) rfl ?_; (first | (refine rsl_lit ?_; (conv => whnf); with_reducible refine hid_mk ?_; (repeat (first | with_reducible exact RsL.nil | refine RsL.cons (rs_isl (by simp) (by first | omega)) ?_)); done) | fail)) | fail), trivial⟩ [.cells [u8s (DR.drop 8)] none] (.int .u64 m) (by first | exact .eq rfl (by first | (simp; done)) | fail) ⟨by (first | (refine objR_cells (by simp) rfl ?_; (first | (refine rsl_lit ?_; (conv => whnf); with_reducible refine hid_mk ?_; (repeat (first | with_reducible exact RsL.nil | refine RsL.cons (Rs.eq rfl (by first | exact idLt_mapI (by intro a; simp))) ?_)); done) | fail)) | fail), trivial⟩ ?_)) | ((with_reducible refine pure_guard (hS) ?_); (refine Pure.useB (hS) (.int .u64 s) [] (by (first | ((repeat (first | with_reducible exact RsL.nil | refine RsL.cons (rs_isl (by simp) (by first | (simp; omega))) ?_)); done) | fail)) ?_)) | (with_reducible refine vblk_same ?_) | (with_reducible refine wnum_i64 (by omega) ?_) | (with_reducible refine fin_hb (by kernel_rfl)) | (with_reducible refine And.intro (by first | with_reducible assumption | omega | (simp; done)) ?_) | (with_reducible refine And.intro (fin_el ?_) ?_)) <;> (conv => whnf))
  all_goals first | exact fin_pure (tup3i (by (repeat' split) <;> first | rfl | omega | (exfalso; omega))) (by simp; done) | exact absurd (by (repeat' split) <;> first | rfl | omega | (exfalso; omega)) h

theorem wire_Unseal.s (bs : List UInt8) (hb : bs.length ≤ 140737488351232) (h : unE bs = 0) : Pure prog 23 [u8s bs] (.tup [u8s (unI bs), .int .i64 (12 + numL (bs.take 4)), .int .i64 0]) := by
  unfold unE at h
  unfold unI
  have h44 := numL_lt4 (l := bs)
  have hT := fun h4 => wire_taker_1.a4 bs h4 hb
  generalize hnn : numL (bs.take 4) = n at h h44 hT ⊢
  have hT8 := fun h8 hb8 => wire_taker_1.a8 (bs.drop (4 + n)) h8 hb8
  have hS := wire_Sum.a (bs.take (4 + n)) (by simp; omega)
  have hdl : (bs.drop (4 + n)).length = bs.length - (4 + n) := by simp
  generalize hmm : numL ((bs.drop (4 + n)).take 8) = m at h hT8 ⊢
  generalize fnv (bs.take (4 + n)) = s at h hS ⊢
  generalize hDr : bs.drop (4 + n) = DR at hT8 hdl
  refine pure_of_vc wire_Unseal.k (by simp) ?_
  conv => whnf
  repeat' ((first | (with_reducible refine hid_mk ?_) | (with_reducible refine bcase_df (by omega) ?_) | (with_reducible refine bcase_nf (by omega) ?_) | (with_reducible refine bcase_nbeq (fun hb => ?_) (fun hb => ?_)) | (with_reducible refine fin_inl ?_) | (with_reducible refine acalls_of_vc wire_ReadCount.k ?_) | (with_reducible refine acalls_of_vc wire_taker.k ?_) | ((with_reducible refine acalls_guard (hT (by omega)) ?_); (refine ACalls.useN (hT (by omega)) [0] [] (by simp) (by (first | ((repeat (first | with_reducible exact RsL.nil | with_reducible refine RsL.cons (Rs.int_eq (by first | rfl)) ?_ | with_reducible refine RsL.cons (Rs.ptr _ _ _ rfl) ?_)); done) | fail)) ⟨by (first | (refine objR_cells (by simp) rfl ?_; (first | (refine rsl_lit ?_; (conv => whnf); with_reducible refine hid_mk ?_; (repeat (first | with_reducible exact RsL.nil | refine RsL.cons (Rs.eq rfl (by first | exact idLt_mapI (by intro a; simp))) ?_)); done) | fail)) | fail), trivial⟩ [.cells [u8s (bs.drop 4)] none] (.int .u64 n) (by first | exact .eq rfl (by first | (simp; done)) | fail) ⟨by (first | (refine objR_cells (by simp) rfl ?_; (first | (refine rsl_lit ?_; (conv => whnf); with_reducible refine hid_mk ?_; (repeat (first | with_reducible exact RsL.nil | refine RsL.cons (Rs.eq rfl (by first | exact idLt_mapI (by intro a; simp))) ?_)); done) | fail)) | fail), trivial⟩ ?_)) | (refine wcut_dr (4 + n) (by omega) (by omega) ?_; rw [hDr]) | (refine wcut_tk (4 + n) (by omega) (by omega) ?_) | (refine wcut_md 4 n (by omega) (by omega) ?_) | ((with_reducible refine acalls_guard (hT8 (by omega) (by omega)) ?_); (refine ACalls.useN (hT8 (by omega) (by omega)) [1] [] (by simp) (by (first | ((repeat (first | with_reducible exact RsL.nil | with_reducible refine RsL.cons (Rs.int_eq (by first | rfl)) ?_ | with_reducible refine RsL.cons (Rs.ptr _ _ _ rfl) ?_)); done) | fail)) ⟨by (first | (refine objR_cells (by simp) rfl ?_; (first | (refine rsl_lit ?_; (conv => whnf); with_reducible refine hid_mk ?_; (repeat (first | with_reducible exact RsL.nil | refine RsL.cons (rs_isl (by simp) (by first | omega)) ?_)); done) | fail)) | fail), trivial⟩ [.cells [u8s (DR.drop 8)] none] (.int .u64 m) (by first | exact .eq rfl (by first | (simp; done)) | fail) ⟨by (first | (refine objR_cells (by simp) rfl ?_; (first | (refine rsl_lit ?_; (conv => whnf); with_reducible refine hid_mk ?_; (repeat (first | with_reducible exact RsL.nil | refine RsL.cons (Rs.eq rfl (by first | exact idLt_mapI (by intro a; simp))) ?_)); done) | fail)) | fail), trivial⟩ ?_)) | ((with_reducible refine pure_guard (hS) ?_); (refine Pure.useB (hS) (.int .u64 s) [] (by (first | ((repeat (first | with_reducible exact RsL.nil | refine RsL.cons (rs_isl (by simp) (by first | (simp; omega))) ?_)); done) | fail)) ?_)) | (with_reducible refine vblk_same ?_) | (with_reducible refine wnum_i64 (by omega) ?_) | (with_reducible refine ask_mk (by first | with_reducible assumption | omega) ?_) | (with_reducible refine fin_hb (by kernel_rfl)) | (with_reducible refine And.intro (by first | with_reducible assumption | omega | (simp; done) | (simp; omega)) ?_) | (with_reducible refine And.intro (fin_el ?_) ?_)) <;> (conv => whnf))
  all_goals first
    | exact fin_rs [] (Rs.tupL (.cons (rs_nilM (by rw [show n = 0 by omega, List.take_zero])) (.cons (.int_eq (by omega)) (.cons (.int_eq rfl) .nil))))
    | exact fin_rs [2] (Rs.tupL (.cons (rs_slice (by simp) rfl rfl (by simp; omega) (by simp)) (.cons (.int_eq (by omega)) (.cons (.int_eq rfl) .nil))))

/-! ### the document's -/
theorem ref08_Unseal.e (bs : List UInt8) (hb : bs.length ≤ 140737488351232) (h : unE bs ≠ 0) : Pure prog 25 [u8s bs] (.tup [.lit (.slice none 0 0), .int .i64 0, .int .i64 (unE bs)]) := by
  unfold unE at h ⊢
  have h44 := numL_lt4 (l := bs)
  have hT := ref08_Taken.a (bs.take 4) (by simp; omega)
  have hdl4 : (bs.take 4).length = min 4 bs.length := by simp
  generalize hnn : numL (bs.take 4) = n at h h44 hT ⊢
  have hT8 := ref08_Taken.a ((bs.drop (4 + n)).take 8) (by simp; omega)
  have hS := ref08_Sum.a (bs.take (4 + n)) (by simp; omega)
  have hdl : ((bs.drop (4 + n)).take 8).length = min 8 (bs.length - (4 + n)) := by simp
  generalize hmm : numL ((bs.drop (4 + n)).take 8) = m at h hT8 ⊢
  generalize fnv (bs.take (4 + n)) = s at h hS ⊢
  refine pure_of_vc ref08_Unseal.k (by simp) ?_
  conv => whnf
  repeat' ((first | (with_reducible refine hid_mk ?_) | (with_reducible refine bcase_nt (by omega) ?_) | (with_reducible refine bcase_dec (fun hb => ?_) (fun hb => ?_)) | (with_reducible refine fin_inl ?_) | (with_reducible refine acalls_of_vc ref08_ReadCount.k ?_) | ((with_reducible refine pure_guard (hT) ?_); (refine Pure.useB (hT) (.int .u64 n) [] (by (first | ((repeat (first | with_reducible exact RsL.nil | refine RsL.cons (rs_isl (by simp) (by first | omega)) ?_)); done) | fail)) ?_)) | ((with_reducible refine pure_guard (hT8) ?_); (refine Pure.useB (hT8) (.int .u64 m) [] (by (first | ((repeat (first | with_reducible exact RsL.nil | refine RsL.cons (rs_isl (by simp) (by first | omega)) ?_)); done) | fail)) ?_)) | ((with_reducible refine pure_guard (hS) ?_); (refine Pure.useB (hS) (.int .u64 s) [] (by (first | ((repeat (first | with_reducible exact RsL.nil | refine RsL.cons (rs_isl (by simp) (by first | (simp; omega))) ?_)); done) | fail)) ?_)) | (refine wcut_tk 4 (by omega) (by omega) ?_) | (refine wcut_tk (4 + n) (by omega) (by omega) ?_) | (refine wcut_md (4 + n) 8 (by omega) (by omega) ?_) | (with_reducible refine wnum_i64 (by omega) ?_) | (with_reducible refine And.intro (by first | with_reducible assumption | omega | (simp; done)) ?_)) <;> (conv => whnf))
  all_goals first
    | exact fin_pure (tup3i (by (repeat' split) <;> first | rfl | omega | (exfalso; omega))) (by simp; done)
    | exact absurd (by (repeat' split) <;> first | rfl | omega | (exfalso; omega)) h

theorem ref08_Unseal.s (bs : List UInt8) (hb : bs.length ≤ 140737488351232) (h : unE bs = 0) : Pure prog 25 [u8s bs] (.tup [u8s (unI bs), .int .i64 (12 + numL (bs.take 4)), .int .i64 0]) := by
  unfold unE at h
  unfold unI
  have h44 := numL_lt4 (l := bs)
  have hT := ref08_Taken.a (bs.take 4) (by simp; omega)
  have hdl4 : (bs.take 4).length = min 4 bs.length := by simp
  generalize hnn : numL (bs.take 4) = n at h h44 hT ⊢
  have hT8 := ref08_Taken.a ((bs.drop (4 + n)).take 8) (by simp; omega)
  have hS := ref08_Sum.a (bs.take (4 + n)) (by simp; omega)
  have hdl : ((bs.drop (4 + n)).take 8).length = min 8 (bs.length - (4 + n)) := by simp
  generalize hmm : numL ((bs.drop (4 + n)).take 8) = m at h hT8 ⊢
  generalize fnv (bs.take (4 + n)) = s at h hS ⊢
  refine pure_of_vc ref08_Unseal.k (by simp) ?_
  conv => whnf
  repeat' ((first | (with_reducible refine hid_mk ?_) | (with_reducible refine bcase_df (by omega) ?_) | (with_reducible refine bcase_nf (by omega) ?_) | (with_reducible refine bcase_nbeq (fun hb => ?_) (fun hb => ?_)) | (with_reducible refine fin_inl ?_) | (with_reducible refine acalls_of_vc ref08_ReadCount.k ?_) | (with_reducible refine acalls_of_vc ref08_Bytes.k ?_) | ((with_reducible refine pure_guard (hT) ?_); (refine Pure.useB (hT) (.int .u64 n) [] (by (first | ((repeat (first | with_reducible exact RsL.nil | refine RsL.cons (rs_isl (by simp) (by first | omega)) ?_)); done) | fail)) ?_)) | ((with_reducible refine pure_guard (hT8) ?_); (refine Pure.useB (hT8) (.int .u64 m) [] (by (first | ((repeat (first | with_reducible exact RsL.nil | refine RsL.cons (rs_isl (by simp) (by first | omega)) ?_)); done) | fail)) ?_)) | ((with_reducible refine pure_guard (hS) ?_); (refine Pure.useB (hS) (.int .u64 s) [] (by (first | ((repeat (first | with_reducible exact RsL.nil | refine RsL.cons (rs_isl (by simp) (by first | (simp; omega))) ?_)); done) | fail)) ?_)) | (refine wcut_tk 4 (by omega) (by omega) ?_) | (refine wcut_tk (4 + n) (by omega) (by omega) ?_) | (refine wcut_md (4 + n) 8 (by omega) (by omega) ?_) | (refine wcut_md 4 n (by omega) (by omega) ?_) | (with_reducible refine ask_mk ⟨by simp, isCells_byt _⟩ ?_) | (with_reducible refine wnum_i64 (by omega) ?_) | (with_reducible refine wcat_zero (by omega) ?_) | (with_reducible refine wroom_grow (by omega) ?_) | (with_reducible refine ask_mk (by first | with_reducible assumption | omega) ?_) | (with_reducible refine And.intro (by first | with_reducible assumption | omega | (simp; done) | (simp; omega)) ?_)) <;> (conv => whnf))
  all_goals first
    | exact fin_rs [0] (Rs.tupL (.cons (rs_bytes0 (by simp; omega)) (.cons (.int_eq rfl) (.cons (.int_eq rfl) .nil))))
    | exact fin_rs [1] (Rs.tupL (.cons (rs_slice (by simp) rfl rfl (by simp; omega) (by simp)) (.cons (.int_eq rfl) (.cons (.int_eq rfl) .nil))))

end Go.Proofs.Ytilhkgfhhkkolaa.C
