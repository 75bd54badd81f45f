/- The document's reader of messages. -/
import Derived.Test.YtilhkgfhhkkolaaCodecF
namespace Go.Proofs.Ytilhkgfhhkkolaa.C
open Go Go.RowKit Go.Proofs.Ytilhkgfhhkkolaa.AL
set_option maxRecDepth 100000
set_option maxHeartbeats 40000000
set_option linter.unusedVariables false
set_option linter.unusedSimpArgs false

theorem ref08_ReadList.a (bs : List UInt8) (hb : bs.length ≤ 140737488351232) : Pure prog 26 [u8s bs] (rlV bs) := by
  by_cases h1 : (gt bs 0).toNat = 1
  · exact ref08_ReadList.c1 bs hb h1
  · by_cases h2 : (gt bs 0).toNat = 2
    · exact ref08_ReadList.c2 bs hb h2
    · exact ref08_ReadList.c0 bs hb h1 h2
theorem ref08_ReadList.g (bs : List UInt8) (hb : bs.length ≤ 140737488351232) (h : rlE bs = 0) : Pure prog 26 [u8s bs] (.tup [.int .u8 (rlF bs), u64s (rlL bs), .int .i64 (5 + rlN bs * rlW bs), .int .i64 0]) := by
  have := ref08_ReadList.a bs hb; rwa [rlV, if_pos h] at this
theorem ref08_ReadList.n (bs : List UInt8) (hb : bs.length ≤ 140737488351232) (h : rlE bs ≠ 0) : Pure prog 26 [u8s bs] (.tup [.int .u8 0, .lit (.slice none 0 0), .int .i64 0, .int .i64 (rlE bs)]) := by
  have := ref08_ReadList.a bs hb; rwa [rlV, if_neg h] at this
theorem rs_aggL {h : Heap} {N F : List Nat} {cs ds : List AV} (r : RsL h N F cs ds) : Rs h N F (.agg cs) (.agg ds) := .agg _ _ r.len r.at_
theorem rlL_nn (bs : List UInt8) : ∀ x ∈ rlL bs, 0 ≤ x := by
  intro x hx
  obtain ⟨i, _, rfl⟩ := List.mem_map.1 hx
  unfold rlX; omega
theorem ref08_Same.f (a b : List UInt8) (h : a ≠ b) : Pure prog 28 [u8s a, u8s b] (.bool false) := by
  refine pure_of_vc ref08_Same.k (by simp) ?_
  conv => whnf
  repeat' ((first | (with_reducible refine hid_mk ?_) | (with_reducible refine wstr_map ?_) | (with_reducible refine And.intro (by first | with_reducible assumption | (simp; done)) ?_)) <;> (conv => whnf))
  exact fin_pure (congrArg AV.bool (by simp [ByteArray.toList_eq, h])) (by simp)
theorem ref08_Same.t (a : List UInt8) : Pure prog 28 [u8s a, u8s a] (.bool true) := by
  refine pure_of_vc ref08_Same.k (by simp) ?_
  conv => whnf
  repeat' ((first | (with_reducible refine hid_mk ?_) | (with_reducible refine wstr_map ?_) | (with_reducible refine And.intro (by first | (simp; done)) ?_)) <;> (conv => whnf))
  exact fin_pure (congrArg AV.bool (by simp)) (by simp)
/-- May the message be written? -/
def MMay (bs : List UInt8) : Prop := (mK bs = 1 ∨ mK bs = 2) ∧ mR bs < 65536 ∧ mW bs < 64 ∧ rlN (mL bs) ≤ 64

set_option maxRecDepth 1000000
theorem ref20_Read.fa (bs : List UInt8) (hbs : bs.length ≤ 140737488351232) (h : unE bs ≠ 0) : Pure prog 16 [u8s bs] (.tup [.agg mNone, .int .i64 (unE bs)]) := by
  have hU := ref08_Unseal.e bs hbs h
  generalize unE bs = E at hU h
  refine pure_of_vc ref20_Read.k (by simp) ?_
  conv => whnf
  repeat' ((first | (with_reducible refine hid_mk ?_) | (with_reducible refine bcase_nt (by omega) ?_) | (with_reducible refine Pure.use (hU) ?_)) <;> (conv => whnf))
  all_goals exact fin_pure rfl (by simp)
theorem ref20_Read.fb (bs : List UInt8) (hbs : bs.length ≤ 140737488351232) (h : unE bs = 0) (h2 : bs.length ≠ 12 + numL (bs.take 4) ∨ (unI bs).length < 9) : Pure prog 16 [u8s bs] (.tup [.agg mNone, .int .i64 8]) := by
  have hU := ref08_Unseal.s bs hbs h
  have hil := unI_length h
  generalize hn : numL (bs.take 4) = n at hU hil h2
  generalize unI bs = I at hU hil h2
  refine pure_of_vc ref20_Read.k (by simp) ?_
  conv => whnf
  repeat' ((first | (with_reducible refine hid_mk ?_) | (with_reducible refine bcase_dt (by omega) ?_) | (with_reducible refine bcase_bne (fun hb => ?_) (fun hb => ?_)) | (with_reducible refine Pure.use (hU) ?_)) <;> (conv => whnf))
  all_goals exact fin_pure rfl (by simp)
theorem ref20_Read.fc (bs : List UInt8) (hbs : bs.length ≤ 140737488351232) (h : unE bs = 0) (h2 : bs.length = 12 + numL (bs.take 4)) (h3 : 9 ≤ (unI bs).length) (h4 : rlE (mL (unI bs)) ≠ 0) : Pure prog 16 [u8s bs] (.tup [.agg mNone, .int .i64 8]) := by
  have hU := ref08_Unseal.s bs hbs h
  have hil := unI_length h
  have hun := (unE_len h).2.1
  generalize hn : numL (bs.take 4) = n at hU hil h2 hun
  generalize hI : unI bs = I at hU hil h3 h4
  have hT1 := ref08_Taken.a ((I.drop 1).take 4) (by simp; omega)
  have hT5 := ref08_Taken.a ((I.drop 5).take 4) (by simp; omega)
  have hm4 : numL ((I.drop 1).take 4) < 4294967296 := numL_lt4
  have hw4 : numL ((I.drop 5).take 4) < 4294967296 := numL_lt4
  have hL := ref08_ReadList.n (mL I) (by simp; omega) h4
  have hWr := ref20_Write.n (gt I (Int.toNat 0)).toNat (numL ((I.drop 1).take 4)) (numL ((I.drop 5).take 4)) 0 [] (by simp) (fun q => by have := q.2.2.2.1; simp [inB, pF] at this)
  refine pure_of_vc ref20_Read.k (by simp) ?_
  conv => whnf
  repeat' ((first | (with_reducible refine hid_mk ?_) | (with_reducible refine bcase_df (by omega) ?_) | (with_reducible refine bcase_nt (by omega) ?_) | (with_reducible refine bcase_nf (by omega) ?_) | (with_reducible refine both_mk rfl ?_) | (with_reducible refine alts_mk ?_ ?_) | (with_reducible refine Pure.use (hU) ?_) | (refine wcut_dr 9 (by omega) (by omega) ?_) | (refine wcut_md 1 4 (by omega) (by omega) ?_) | (refine wcut_md 5 4 (by omega) (by omega) ?_) | ((with_reducible refine pure_guard (hT1) ?_); (refine Pure.useB (hT1) (.int _ _) [] (by (first | ((repeat (first | with_reducible exact RsL.nil | refine RsL.cons (rs_isl (by simp) (by first | (simp; omega))) ?_)); done) | fail)) ?_)) | ((with_reducible refine pure_guard (hT5) ?_); (refine Pure.useB (hT5) (.int _ _) [] (by (first | ((repeat (first | with_reducible exact RsL.nil | refine RsL.cons (rs_isl (by simp) (by first | (simp; omega))) ?_)); done) | fail)) ?_)) | ((with_reducible refine pure_guard (hL) ?_); (refine Pure.use0 (hL) (by (first | ((repeat (first | with_reducible exact RsL.nil | refine RsL.cons (rs_isl (by simp) (by first | (simp; omega))) ?_)); done) | fail)) ?_)) | ((with_reducible refine pure_guard hWr ?_); (refine Pure.use0 hWr (.cons (rs_aggL (.cons (.eq rfl (by simp)) (.cons (.eq rfl (by simp)) (.cons (.eq rfl (by simp)) (.cons (.eq rfl (by simp)) (.cons (.nil false) .nil)))))) .nil) ?_)) | (with_reducible refine wnum_i64 (by omega) ?_) | (with_reducible refine wfoc_map (by first | omega) ?_) | (with_reducible refine And.intro (by first | with_reducible assumption | omega | (simp; done)) ?_)) <;> (conv => whnf))
  all_goals exact fin_pure rfl (by simp)
theorem ref20_Read.fd (bs : List UInt8) (hbs : bs.length ≤ 140737488351232) (h : unE bs = 0) (h2 : bs.length = 12 + numL (bs.take 4)) (h3 : 9 ≤ (unI bs).length) (h4 : rlE (mL (unI bs)) = 0) (h5 : ¬ MMay (unI bs)) : Pure prog 16 [u8s bs] (.tup [.agg mNone, .int .i64 8]) := by
  have hU := ref08_Unseal.s bs hbs h
  have hil := unI_length h
  have hun := (unE_len h).2.1
  generalize hn : numL (bs.take 4) = n at hU hil h2 hun
  generalize hI : unI bs = I at hU hil h3 h4 h5
  have hT1 := ref08_Taken.a ((I.drop 1).take 4) (by simp; omega)
  have hT5 := ref08_Taken.a ((I.drop 5).take 4) (by simp; omega)
  have hm4 : numL ((I.drop 1).take 4) < 4294967296 := numL_lt4
  have hw4 : numL ((I.drop 5).take 4) < 4294967296 := numL_lt4
  have hL := ref08_ReadList.g (mL I) (by simp; omega) h4
  have hnn := rlL_nn (mL I)
  have hin := (rlE_in h4).1
  have hlq := (rlE_in h4).2.2
  have hll := rlL_length (mL I)
  have h44 := (rlE_in h4).2.1
  have hml : (mL I).length = I.length - 9 := by simp
  unfold MMay mK mR mW at h5
  have hWr := ref20_Write.n (gt I (Int.toNat 0)).toNat (numL ((I.drop 1).take 4)) (numL ((I.drop 5).take 4)) (rlF (mL I)) (rlL (mL I)) (by omega) (fun q => h5 ⟨q.1, by omega, by omega, by omega⟩)
  refine pure_of_vc ref20_Read.k (by simp) ?_
  conv => whnf
  repeat' ((first | (with_reducible refine hid_mk ?_) | (with_reducible refine bcase_df (by omega) ?_) | (with_reducible refine bcase_nf (by omega) ?_) | (with_reducible refine both_mk rfl ?_) | (with_reducible refine alts_mk ?_ ?_) | (with_reducible refine Pure.use (hU) ?_) | (refine wcut_dr 9 (by omega) (by omega) ?_) | (refine wcut_md 1 4 (by omega) (by omega) ?_) | (refine wcut_md 5 4 (by omega) (by omega) ?_) | ((with_reducible refine pure_guard (hT1) ?_); (refine Pure.useB (hT1) (.int _ _) [] (by (first | ((repeat (first | with_reducible exact RsL.nil | refine RsL.cons (rs_isl (by simp) (by first | (simp; omega))) ?_)); done) | fail)) ?_)) | ((with_reducible refine pure_guard (hT5) ?_); (refine Pure.useB (hT5) (.int _ _) [] (by (first | ((repeat (first | with_reducible exact RsL.nil | refine RsL.cons (rs_isl (by simp) (by first | (simp; omega))) ?_)); done) | fail)) ?_)) | ((with_reducible refine pure_guard (hL) ?_); (refine Pure.use0 (hL) (by (first | ((repeat (first | with_reducible exact RsL.nil | refine RsL.cons (rs_isl (by simp) (by first | (simp; omega))) ?_)); done) | fail)) ?_)) | ((with_reducible refine pure_guard (hWr) ?_); (refine Pure.use0 (hWr) (by (first | ((repeat (first | with_reducible exact RsL.nil | refine RsL.cons (Rs.eq rfl (by first | (simp; done))) ?_)); done) | fail)) ?_)) | (with_reducible refine wnum_i64 (by omega) ?_) | (with_reducible refine wfoc_map (by first | omega) ?_) | (with_reducible refine And.intro (by first | with_reducible assumption | omega | (simp; done)) ?_)) <;> (conv => whnf))
  all_goals exact fin_pure rfl (by simp)
theorem ref20_Read.fe (bs : List UInt8) (hbs : bs.length ≤ 140737488351232) (h : unE bs = 0) (h2 : bs.length = 12 + numL (bs.take 4)) (h3 : 9 ≤ (unI bs).length) (h4 : rlE (mL (unI bs)) = 0) (h5 : MMay (unI bs)) (h6 : (mL (unI bs)).length ≠ 5 + rlN (mL (unI bs)) * rlW (mL (unI bs))) : Pure prog 16 [u8s bs] (.tup [.agg mNone, .int .i64 8]) := by
  have hU := ref08_Unseal.s bs hbs h
  have hil := unI_length h
  have hun := (unE_len h).2.1
  generalize hn : numL (bs.take 4) = n at hU hil h2 hun
  generalize hI : unI bs = I at hU hil h3 h4 h5 h6
  have hT1 := ref08_Taken.a ((I.drop 1).take 4) (by simp; omega)
  have hT5 := ref08_Taken.a ((I.drop 5).take 4) (by simp; omega)
  have hm4 : numL ((I.drop 1).take 4) < 4294967296 := numL_lt4
  have hw4 : numL ((I.drop 5).take 4) < 4294967296 := numL_lt4
  have hL := ref08_ReadList.g (mL I) (by simp; omega) h4
  have hnn := rlL_nn (mL I)
  have hin := (rlE_in h4).1
  have hlq := (rlE_in h4).2.2
  have hll := rlL_length (mL I)
  have h44 := (rlE_in h4).2.1
  have hml : (mL I).length = I.length - 9 := by simp
  unfold MMay at h5
  have hWr := ref20_Write.s (gt I (Int.toNat 0)).toNat (numL ((I.drop 1).take 4)) (numL ((I.drop 5).take 4)) (rlF (mL I)) (rlL (mL I)) h5.1 ⟨by omega, by have := h5.2.1; unfold mR at this; omega⟩ ⟨by omega, by have := h5.2.2.1; unfold mW at this; omega⟩ hin hnn (by rw [hll]; exact h5.2.2.2)
  have hK : UInt8.ofNat (((gt I (Int.toNat 0)).toNat : Nat) : Int).toNat = gt I 0 := by rw [Int.toNat_natCast]; show UInt8.ofNat (gt I 0).toNat = gt I 0; simp
  rw [hK, Int.toNat_natCast, Int.toNat_natCast] at hWr
  have hzl := sealB_length (wB (gt I 0) (numL ((I.drop 1).take 4)) (numL ((I.drop 5).take 4)) (rlF (mL I)) (rlL (mL I)))
  rw [wB_length, show (4 * rlF (mL I)).toNat = rlW (mL I) by unfold rlF rlW; omega, hll] at hzl
  generalize sealB (wB (gt I 0) (numL ((I.drop 1).take 4)) (numL ((I.drop 5).take 4)) (rlF (mL I)) (rlL (mL I))) = Z at hWr hzl
  have hZ : Z ≠ bs := fun q => by rw [q] at hzl; omega
  have hSm := ref08_Same.f Z bs hZ
  refine pure_of_vc ref20_Read.k (by simp) ?_
  conv => whnf
  repeat' ((first | (with_reducible refine hid_mk ?_) | (with_reducible refine bcase_df (by omega) ?_) | (with_reducible refine bcase_nf (by omega) ?_) | (with_reducible refine both_mk rfl ?_) | (with_reducible refine alts_mk ?_ ?_) | (with_reducible refine Pure.use (hU) ?_) | (refine wcut_dr 9 (by omega) (by omega) ?_) | (refine wcut_md 1 4 (by omega) (by omega) ?_) | (refine wcut_md 5 4 (by omega) (by omega) ?_) | ((with_reducible refine pure_guard (hT1) ?_); (refine Pure.useB (hT1) (.int _ _) [] (by (first | ((repeat (first | with_reducible exact RsL.nil | refine RsL.cons (rs_isl (by simp) (by first | (simp; omega))) ?_)); done) | fail)) ?_)) | ((with_reducible refine pure_guard (hT5) ?_); (refine Pure.useB (hT5) (.int _ _) [] (by (first | ((repeat (first | with_reducible exact RsL.nil | refine RsL.cons (rs_isl (by simp) (by first | (simp; omega))) ?_)); done) | fail)) ?_)) | ((with_reducible refine pure_guard (hL) ?_); (refine Pure.use0 (hL) (by (first | ((repeat (first | with_reducible exact RsL.nil | refine RsL.cons (rs_isl (by simp) (by first | (simp; omega))) ?_)); done) | fail)) ?_)) | ((with_reducible refine pure_guard (hWr) ?_); (refine Pure.use0 (hWr) (by (first | ((repeat (first | with_reducible exact RsL.nil | refine RsL.cons (Rs.eq rfl (by first | (simp; done))) ?_)); done) | fail)) ?_)) | ((with_reducible refine pure_guard (hSm) ?_); (refine Pure.use0 (hSm) (by (first | ((repeat (first | with_reducible exact RsL.nil | refine RsL.cons (Rs.eq rfl (by first | exact idLt_mapI (by intro a; simp))) ?_)); done) | fail)) ?_)) | (with_reducible refine wnum_i64 (by omega) ?_) | (with_reducible refine wfoc_map (by first | omega) ?_) | (with_reducible refine And.intro (by first | with_reducible assumption | omega | (simp; done)) ?_)) <;> (conv => whnf))
  all_goals exact fin_pure rfl (by simp)
theorem ref20_Read.s (bs : List UInt8) (hbs : bs.length ≤ 140737488351232) (hR : ROk bs) : Pure prog 16 [u8s bs] (.tup [.agg (mMsg (unI bs)), .int .i64 0]) := by
  obtain ⟨h, h2, hM⟩ := hR
  have h3 := hM.len
  have h4 := hM.list
  have h5 : MMay (unI bs) := ⟨hM.kind, hM.round, hM.worker, hM.few⟩
  have h6 : (mL (unI bs)).length = 5 + rlN (mL (unI bs)) * rlW (mL (unI bs)) := by have q1 := hM.all; have q2 : (mL (unI bs)).length = (unI bs).length - 9 := List.length_drop; omega
  have hback := msg_un h3 h4 h6
  have hseal := seal_un h h2
  have hU := ref08_Unseal.s bs hbs h
  have hil := unI_length h
  have hun := (unE_len h).2.1
  generalize hn : numL (bs.take 4) = n at hU hil h2 hun
  generalize hI : unI bs = I at hU hil h3 h4 h5 h6 hback hseal ⊢
  have hT1 := ref08_Taken.a ((I.drop 1).take 4) (by simp; omega)
  have hT5 := ref08_Taken.a ((I.drop 5).take 4) (by simp; omega)
  have hm4 : numL ((I.drop 1).take 4) < 4294967296 := numL_lt4
  have hw4 : numL ((I.drop 5).take 4) < 4294967296 := numL_lt4
  have hL := ref08_ReadList.g (mL I) (by simp; omega) h4
  have hnn := rlL_nn (mL I)
  have hin := (rlE_in h4).1
  have hlq := (rlE_in h4).2.2
  have hll := rlL_length (mL I)
  have h44 := (rlE_in h4).2.1
  have hml : (mL I).length = I.length - 9 := by simp
  unfold MMay at h5
  have hWr := ref20_Write.s (gt I (Int.toNat 0)).toNat (numL ((I.drop 1).take 4)) (numL ((I.drop 5).take 4)) (rlF (mL I)) (rlL (mL I)) h5.1 ⟨by omega, by have := h5.2.1; unfold mR at this; omega⟩ ⟨by omega, by have := h5.2.2.1; unfold mW at this; omega⟩ hin hnn (by rw [hll]; exact h5.2.2.2)
  have hK : UInt8.ofNat (((gt I (Int.toNat 0)).toNat : Nat) : Int).toNat = gt I 0 := by rw [Int.toNat_natCast]; show UInt8.ofNat (gt I 0).toNat = gt I 0; simp
  rw [hK, Int.toNat_natCast, Int.toNat_natCast] at hWr
  unfold mR mW at hback
  rw [hback, hseal] at hWr
  have hSm := ref08_Same.t bs
  refine pure_of_vc ref20_Read.k (by simp) ?_
  conv => whnf
  repeat' ((first | (with_reducible refine hid_mk ?_) | (with_reducible refine bcase_df (by omega) ?_) | (with_reducible refine bcase_nf (by omega) ?_) | (with_reducible refine both_mk rfl ?_) | (with_reducible refine alts_mk ?_ ?_) | (with_reducible refine Pure.use (hU) ?_) | (refine wcut_dr 9 (by omega) (by omega) ?_) | (refine wcut_md 1 4 (by omega) (by omega) ?_) | (refine wcut_md 5 4 (by omega) (by omega) ?_) | ((with_reducible refine pure_guard (hT1) ?_); (refine Pure.useB (hT1) (.int _ _) [] (by (first | ((repeat (first | with_reducible exact RsL.nil | refine RsL.cons (rs_isl (by simp) (by first | (simp; omega))) ?_)); done) | fail)) ?_)) | ((with_reducible refine pure_guard (hT5) ?_); (refine Pure.useB (hT5) (.int _ _) [] (by (first | ((repeat (first | with_reducible exact RsL.nil | refine RsL.cons (rs_isl (by simp) (by first | (simp; omega))) ?_)); done) | fail)) ?_)) | ((with_reducible refine pure_guard (hL) ?_); (refine Pure.use0 (hL) (by (first | ((repeat (first | with_reducible exact RsL.nil | refine RsL.cons (rs_isl (by simp) (by first | (simp; omega))) ?_)); done) | fail)) ?_)) | ((with_reducible refine pure_guard (hWr) ?_); (refine Pure.use0 (hWr) (by (first | ((repeat (first | with_reducible exact RsL.nil | refine RsL.cons (Rs.eq rfl (by first | (simp; done))) ?_)); done) | fail)) ?_)) | ((with_reducible refine pure_guard (hSm) ?_); (refine Pure.use0 (hSm) (by (first | ((repeat (first | with_reducible exact RsL.nil | refine RsL.cons (Rs.eq rfl (by first | exact idLt_mapI (by intro a; simp))) ?_)); done) | fail)) ?_)) | (with_reducible refine wnum_i64 (by omega) ?_) | (with_reducible refine wfoc_map (by first | omega) ?_) | (with_reducible refine And.intro (by first | with_reducible assumption | omega | (simp; done)) ?_)) <;> (conv => whnf))
  all_goals exact fin_pure rfl (by simp)
theorem ref20_Read.f (bs : List UInt8) (hbs : bs.length ≤ 140737488351232) (hno : ¬ ROk bs) : Pure prog 16 [u8s bs] (.tup [.agg mNone, .int .i64 (rdE bs)]) := by
  unfold rdE
  by_cases h : unE bs = 0
  · rw [if_pos h]
    by_cases h2 : bs.length = 12 + numL (bs.take 4)
    · by_cases h3 : 9 ≤ (unI bs).length
      · by_cases h4 : rlE (mL (unI bs)) = 0
        · by_cases h5 : MMay (unI bs)
          · by_cases h6 : (mL (unI bs)).length = 5 + rlN (mL (unI bs)) * rlW (mL (unI bs))
            · exact absurd ⟨h, h2, h3, h5.1, h5.2.1, h5.2.2.1, h4, by have q2 : (mL (unI bs)).length = (unI bs).length - 9 := List.length_drop; omega, h5.2.2.2⟩ hno
            · exact ref20_Read.fe bs hbs h h2 h3 h4 h5 h6
          · exact ref20_Read.fd bs hbs h h2 h3 h4 h5
        · exact ref20_Read.fc bs hbs h h2 h3 h4
      · exact ref20_Read.fb bs hbs h (.inr (by omega))
    · exact ref20_Read.fb bs hbs h (.inl h2)
  · rw [if_neg h]; exact ref20_Read.fa bs hbs h

end Go.Proofs.Ytilhkgfhhkkolaa.C
