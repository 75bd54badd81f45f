/- Package codec: parts, of what is no message. -/
import Derived.Test.YtilhkgfhhkkolaaCodecA
namespace Go.Proofs.Ytilhkgfhhkkolaa.C
open Go Go.RowKit Go.Proofs.Ytilhkgfhhkkolaa.AL
set_option maxRecDepth 100000
set_option maxHeartbeats 40000000
set_option linter.unusedVariables false
set_option linter.unusedSimpArgs false

set_option maxRecDepth 1000000 in
theorem codec_parts.fa (bs : List UInt8) (hbs : bs.length ≤ 140737488351232) (h : bs.length < 1) : Pure prog 24 [u8s bs] (.tup [.agg mNone, .bool false]) := by
  refine pure_of_def codec_parts.k (by simp) ?_
  conv => whnf
  repeat' ((first | (with_reducible refine hid_mk ?_) | (with_reducible refine bcase_not ?_) | (with_reducible refine bcase_df (by omega) ?_) | (with_reducible refine fin_inlP ?_) | (with_reducible refine acalls_of_vc codec_need.k ?_) | (refine ⟨_, _, rfl, by kernel_rfl, ?_⟩) | (with_reducible refine adef_of_chkRec codec_parts_1.k (by simp) ?_) | (with_reducible refine And.intro (by first | with_reducible assumption | (simp; done)) ?_)) <;> (conv => whnf))
  all_goals exact fin_pure rfl (by simp)
set_option maxRecDepth 1000000 in
theorem codec_parts.fb (bs : List UInt8) (hbs : bs.length ≤ 140737488351232) (h : 1 ≤ bs.length) (h2 : bs.length < 5) : Pure prog 24 [u8s bs] (.tup [.agg mNone, .bool false]) := by
  have hR := wire_ReadCount.s (bs.drop 1) (by simp; omega) (by simp; omega)
  refine pure_of_def codec_parts.k (by simp) ?_
  conv => whnf
  repeat' ((first | (with_reducible refine hid_mk ?_) | (with_reducible refine bcase_not ?_) | (with_reducible refine bcase_dt (by omega) ?_) | (with_reducible refine both_mk rfl ?_) | (with_reducible refine fin_inl ?_) | (with_reducible refine fin_inlP ?_) | (with_reducible refine acalls_of_vc codec_need.k ?_) | (with_reducible refine acalls_of_vc codec_parts_2.k ?_) | (with_reducible refine acalls_of_vc codec_parts_3.k ?_) | (with_reducible refine acalls_of_vc codec_parts_3_1.k ?_) | ((with_reducible refine pure_guard (hR) ?_); (refine Pure.use0 (hR) (by (first | ((repeat (first | with_reducible exact RsL.nil | refine RsL.cons (rs_isl (by simp) (by first | (simp; done))) ?_)); done) | fail)) ?_)) | (refine ⟨_, _, rfl, by kernel_rfl, ?_⟩) | (with_reducible refine adef_of_chkRec codec_parts_1.k (by simp) ?_) | (refine wcut_dr 1 (by omega) (by omega) ?_) | (with_reducible refine wfoc_map (by first | omega) ?_) | (with_reducible refine fin_hb (by kernel_rfl)) | (with_reducible refine And.intro (by first | with_reducible assumption | omega | (simp; done)) ?_) | (with_reducible refine And.intro (fin_el ?_) ?_)) <;> (conv => whnf))
  all_goals exact fin_pure rfl (by simp)
set_option maxRecDepth 1000000 in
theorem codec_parts.fc (bs : List UInt8) (hbs : bs.length ≤ 140737488351232) (h : 5 ≤ bs.length) (h2 : mR bs > 2147483647) : Pure prog 24 [u8s bs] (.tup [.agg mNone, .bool false]) := by
  have hR := wire_ReadCount.m (bs.drop 1) (by simp; omega) (by simp; omega) h2
  refine pure_of_def codec_parts.k (by simp) ?_
  conv => whnf
  repeat' ((first | (with_reducible refine hid_mk ?_) | (with_reducible refine bcase_not ?_) | (with_reducible refine bcase_dt (by omega) ?_) | (with_reducible refine both_mk rfl ?_) | (with_reducible refine fin_inl ?_) | (with_reducible refine fin_inlP ?_) | (with_reducible refine acalls_of_vc codec_need.k ?_) | (with_reducible refine acalls_of_vc codec_parts_2.k ?_) | (with_reducible refine acalls_of_vc codec_parts_3.k ?_) | (with_reducible refine acalls_of_vc codec_parts_3_1.k ?_) | ((with_reducible refine pure_guard (hR) ?_); (refine Pure.use0 (hR) (by (first | ((repeat (first | with_reducible exact RsL.nil | refine RsL.cons (rs_isl (by simp) (by first | (simp; done))) ?_)); done) | fail)) ?_)) | (refine ⟨_, _, rfl, by kernel_rfl, ?_⟩) | (with_reducible refine adef_of_chkRec codec_parts_1.k (by simp) ?_) | (refine wcut_dr 1 (by omega) (by omega) ?_) | (with_reducible refine wfoc_map (by first | omega) ?_) | (with_reducible refine fin_hb (by kernel_rfl)) | (with_reducible refine And.intro (by first | with_reducible assumption | omega | (simp; done)) ?_) | (with_reducible refine And.intro (fin_el ?_) ?_)) <;> (conv => whnf))
  all_goals exact fin_pure rfl (by simp)
set_option maxRecDepth 1000000 in
theorem codec_parts.fd (bs : List UInt8) (hbs : bs.length ≤ 140737488351232) (h : 5 ≤ bs.length) (h2 : mR bs ≤ 2147483647) (h3 : bs.length < 9) : Pure prog 24 [u8s bs] (.tup [.agg mNone, .bool false]) := by
  have hR := wire_ReadCount.g (bs.drop 1) (by simp; omega) (by simp; omega) h2
  have hW := wire_ReadCount.s (bs.drop 5) (by simp; omega) (by simp; omega)
  refine pure_of_def codec_parts.k (by simp) ?_
  conv => whnf
  repeat' ((first | (with_reducible refine hid_mk ?_) | (with_reducible refine bcase_not ?_) | (with_reducible refine bcase_dt (by omega) ?_) | (with_reducible refine both_mk rfl ?_) | (with_reducible refine fin_inl ?_) | (with_reducible refine fin_inlP ?_) | (with_reducible refine acalls_of_vc codec_need.k ?_) | (with_reducible refine acalls_of_vc codec_parts_2.k ?_) | (with_reducible refine acalls_of_vc codec_parts_3.k ?_) | (with_reducible refine acalls_of_vc codec_parts_3_1.k ?_) | ((with_reducible refine pure_guard (hR) ?_); (refine Pure.use0 (hR) (by (first | ((repeat (first | with_reducible exact RsL.nil | refine RsL.cons (rs_isl (by simp) (by first | (simp; done))) ?_)); done) | fail)) ?_)) | ((with_reducible refine pure_guard (hW) ?_); (refine Pure.use0 (hW) (by (first | ((repeat (first | with_reducible exact RsL.nil | refine RsL.cons (rs_isl (by simp) (by first | (simp; omega))) ?_)); done) | fail)) ?_)) | (refine ⟨_, _, rfl, by kernel_rfl, ?_⟩) | (with_reducible refine adef_of_chkRec codec_parts_1.k (by simp) ?_) | (refine wcut_dr 1 (by omega) (by omega) ?_) | (refine wcut_dd 1 4 5 rfl (by omega) (by omega) ?_) | (with_reducible refine wfoc_map (by first | omega) ?_) | (with_reducible refine fin_hb (by kernel_rfl)) | (with_reducible refine And.intro (by first | with_reducible assumption | omega | (simp; done)) ?_) | (with_reducible refine And.intro (fin_el ?_) ?_)) <;> (conv => whnf))
  all_goals exact fin_pure rfl (by simp)
set_option maxRecDepth 1000000 in
theorem codec_parts.fe (bs : List UInt8) (hbs : bs.length ≤ 140737488351232) (h : 9 ≤ bs.length) (h2 : mR bs ≤ 2147483647) (h3 : mW bs > 2147483647) : Pure prog 24 [u8s bs] (.tup [.agg mNone, .bool false]) := by
  have hR := wire_ReadCount.g (bs.drop 1) (by simp; omega) (by simp; omega) h2
  have hW := wire_ReadCount.m (bs.drop 5) (by simp; omega) (by simp; omega) h3
  refine pure_of_def codec_parts.k (by simp) ?_
  conv => whnf
  repeat' ((first | (with_reducible refine hid_mk ?_) | (with_reducible refine bcase_not ?_) | (with_reducible refine bcase_dt (by omega) ?_) | (with_reducible refine both_mk rfl ?_) | (with_reducible refine fin_inl ?_) | (with_reducible refine fin_inlP ?_) | (with_reducible refine acalls_of_vc codec_need.k ?_) | (with_reducible refine acalls_of_vc codec_parts_2.k ?_) | (with_reducible refine acalls_of_vc codec_parts_3.k ?_) | (with_reducible refine acalls_of_vc codec_parts_3_1.k ?_) | ((with_reducible refine pure_guard (hR) ?_); (refine Pure.use0 (hR) (by (first | ((repeat (first | with_reducible exact RsL.nil | refine RsL.cons (rs_isl (by simp) (by first | (simp; done))) ?_)); done) | fail)) ?_)) | ((with_reducible refine pure_guard (hW) ?_); (refine Pure.use0 (hW) (by (first | ((repeat (first | with_reducible exact RsL.nil | refine RsL.cons (rs_isl (by simp) (by first | (simp; omega))) ?_)); done) | fail)) ?_)) | (refine ⟨_, _, rfl, by kernel_rfl, ?_⟩) | (with_reducible refine adef_of_chkRec codec_parts_1.k (by simp) ?_) | (refine wcut_dr 1 (by omega) (by omega) ?_) | (refine wcut_dd 1 4 5 rfl (by omega) (by omega) ?_) | (with_reducible refine wfoc_map (by first | omega) ?_) | (with_reducible refine fin_hb (by kernel_rfl)) | (with_reducible refine And.intro (by first | with_reducible assumption | omega | (simp; done)) ?_) | (with_reducible refine And.intro (fin_el ?_) ?_)) <;> (conv => whnf))
  all_goals exact fin_pure rfl (by simp)
set_option maxRecDepth 1000000 in
theorem codec_parts.ff (bs : List UInt8) (hbs : bs.length ≤ 140737488351232) (h : 9 ≤ bs.length) (h2 : mR bs ≤ 2147483647) (h3 : mW bs ≤ 2147483647) (h4 : rlE (mL bs) ≠ 0) : Pure prog 24 [u8s bs] (.tup [.agg mNone, .bool false]) := by
  have hR := wire_ReadCount.g (bs.drop 1) (by simp; omega) (by simp; omega) h2
  have hW := wire_ReadCount.g (bs.drop 5) (by simp; omega) (by simp; omega) h3
  have hL := wire_ReadList.n (mL bs) (by simp; omega) h4
  generalize rlE (mL bs) = E at hL h4
  refine pure_of_def codec_parts.k (by simp) ?_
  conv => whnf
  repeat' ((first | (with_reducible refine hid_mk ?_) | (with_reducible refine bcase_not ?_) | (with_reducible refine bcase_dt (by omega) ?_) | (with_reducible refine bcase_ef (by omega) ?_) | (with_reducible refine both_mk rfl ?_) | (with_reducible refine fin_inl ?_) | (with_reducible refine fin_inlP ?_) | (with_reducible refine acalls_of_vc codec_need.k ?_) | (with_reducible refine acalls_of_vc codec_parts_2.k ?_) | (with_reducible refine acalls_of_vc codec_parts_3.k ?_) | (with_reducible refine acalls_of_vc codec_parts_3_1.k ?_) | (with_reducible refine acalls_of_vc codec_parts_4.k ?_) | ((with_reducible refine pure_guard (hR) ?_); (refine Pure.use0 (hR) (by (first | ((repeat (first | with_reducible exact RsL.nil | refine RsL.cons (rs_isl (by simp) (by first | (simp; done))) ?_)); done) | fail)) ?_)) | ((with_reducible refine pure_guard (hW) ?_); (refine Pure.use0 (hW) (by (first | ((repeat (first | with_reducible exact RsL.nil | refine RsL.cons (rs_isl (by simp) (by first | (simp; omega))) ?_)); done) | fail)) ?_)) | ((with_reducible refine pure_guard (hL) ?_); (refine Pure.use0 (hL) (by (first | ((repeat (first | with_reducible exact RsL.nil | refine RsL.cons (rs_isl (by simp) (by first | (simp; omega))) ?_)); done) | fail)) ?_)) | (refine ⟨_, _, rfl, by kernel_rfl, ?_⟩) | (with_reducible refine adef_of_chkRec codec_parts_1.k (by simp) ?_) | (refine wcut_dr 1 (by omega) (by omega) ?_) | (refine wcut_dd 1 4 5 rfl (by omega) (by omega) ?_) | (refine wcut_dd 5 4 9 rfl (by omega) (by omega) ?_) | (with_reducible refine wfoc_map (by first | omega) ?_) | (with_reducible refine fin_hb (by kernel_rfl)) | (with_reducible refine And.intro (by first | with_reducible assumption | omega | (simp; done) | (simp; omega)) ?_) | (with_reducible refine And.intro (fin_el ?_) ?_)) <;> (conv => whnf))
  all_goals exact fin_pure rfl (by simp)
set_option maxRecDepth 1000000 in
theorem codec_parts.fg (bs : List UInt8) (hbs : bs.length ≤ 140737488351232) (h : 9 ≤ bs.length) (h2 : mR bs ≤ 2147483647) (h3 : mW bs ≤ 2147483647) (h4 : rlE (mL bs) = 0) (hno : ¬ MOk bs) : Pure prog 24 [u8s bs] (.tup [.agg mNone, .bool false]) := by
  have hR := wire_ReadCount.g (bs.drop 1) (by simp; omega) (by simp; omega) h2
  have hW := wire_ReadCount.g (bs.drop 5) (by simp; omega) (by simp; omega) h3
  have hL := wire_ReadList.g (mL bs) (by simp; omega) h4
  have hIn := (rlE_in h4).1
  have hlq := (rlE_in h4).2.2
  have hI := field_In.a (rlF (mL bs)) (rlL (mL bs)) (by rw [rlL_length]; have := (rlE_in h4).2.1; omega)
  have hll := rlL_length (mL bs)
  have hml : (mL bs).length = bs.length - 9 := by simp
  have hRd : mR bs = numL ((bs.drop 1).take 4) := rfl
  have hWd : mW bs = numL ((bs.drop 5).take 4) := rfl
  have hKd : mK bs = ((gt bs (Int.toNat 0)).toNat : Int) := rfl
  refine pure_of_def codec_parts.k (by simp) ?_
  conv => whnf
  repeat' ((first | (with_reducible refine hid_mk ?_) | (with_reducible refine bcase_not ?_) | (with_reducible refine bcase_true (by with_reducible assumption) ?_) | (with_reducible refine bcase_dt (by omega) ?_) | (with_reducible refine bcase_dec (fun hb => ?_) (fun hb => ?_)) | (with_reducible refine bcase_beq (fun hb => ?_) (fun hb => ?_)) | (with_reducible refine both_mk rfl ?_) | (with_reducible refine fin_inl ?_) | (with_reducible refine fin_inlP ?_) | (with_reducible refine acalls_of_vc codec_need.k ?_) | (with_reducible refine acalls_of_vc codec_parts_2.k ?_) | (with_reducible refine acalls_of_vc codec_parts_3.k ?_) | (with_reducible refine acalls_of_vc codec_parts_3_1.k ?_) | (with_reducible refine acalls_of_vc codec_parts_4.k ?_) | (with_reducible refine acalls_of_vc codec_May.k ?_) | ((with_reducible refine pure_guard (hR) ?_); (refine Pure.use0 (hR) (by (first | ((repeat (first | with_reducible exact RsL.nil | refine RsL.cons (rs_isl (by simp) (by first | (simp; done))) ?_)); done) | fail)) ?_)) | ((with_reducible refine pure_guard (hW) ?_); (refine Pure.use0 (hW) (by (first | ((repeat (first | with_reducible exact RsL.nil | refine RsL.cons (rs_isl (by simp) (by first | (simp; omega))) ?_)); done) | fail)) ?_)) | ((with_reducible refine pure_guard (hL) ?_); (refine Pure.use0 (hL) (by (first | ((repeat (first | with_reducible exact RsL.nil | refine RsL.cons (rs_isl (by simp) (by first | (simp; omega))) ?_)); done) | fail)) ?_)) | (refine wcut_dd 9 (5 + rlN (mL bs) * rlW (mL bs)) _ rfl (by omega) (by omega) ?_) | ((with_reducible refine pure_guard (hI) ?_); (refine Pure.useB (hI) (.bool _) [] (by (first | ((repeat (first | with_reducible exact RsL.nil | with_reducible refine RsL.cons (Rs.int_eq (by first | rfl)) ?_ | refine RsL.cons (Rs.eq rfl (by first | exact idLt_mapI (by intro a; simp))) ?_)); done) | fail)) ?_)) | (refine ⟨_, _, rfl, by kernel_rfl, ?_⟩) | (with_reducible refine adef_of_chkRec codec_parts_1.k (by simp) ?_) | (refine wcut_dr 1 (by omega) (by omega) ?_) | (refine wcut_dd 1 4 5 rfl (by omega) (by omega) ?_) | (refine wcut_dd 5 4 9 rfl (by omega) (by omega) ?_) | (with_reducible refine wfoc_map (by first | omega) ?_) | (with_reducible refine fin_hb (by kernel_rfl)) | (with_reducible refine And.intro (by first | with_reducible assumption | omega | (simp; done) | (simp; omega)) ?_) | (with_reducible refine And.intro (fin_el ?_) ?_)) <;> (conv => whnf))
  all_goals first | exact fin_pure rfl (by simp; done) | exact absurd ⟨by omega, by omega, by omega, by omega, h4, by omega, by omega⟩ hno
theorem codec_parts.f (bs : List UInt8) (hbs : bs.length ≤ 140737488351232) (hno : ¬ MOk bs) : Pure prog 24 [u8s bs] (.tup [.agg mNone, .bool false]) := by
  by_cases h0 : bs.length < 1
  · exact codec_parts.fa bs hbs h0
  by_cases h1 : bs.length < 5
  · exact codec_parts.fb bs hbs (by omega) h1
  by_cases h2 : mR bs ≤ 2147483647
  · by_cases h3 : bs.length < 9
    · exact codec_parts.fd bs hbs (by omega) h2 h3
    by_cases h4 : mW bs ≤ 2147483647
    · by_cases h5 : rlE (mL bs) = 0
      · exact codec_parts.fg bs hbs (by omega) h2 h4 h5 hno
      · exact codec_parts.ff bs hbs (by omega) h2 h4 h5
    · exact codec_parts.fe bs hbs (by omega) h2 (by omega)
  · exact codec_parts.fc bs hbs (by omega) (by omega)

end Go.Proofs.Ytilhkgfhhkkolaa.C
