/- Package codec: parts. -/
import Derived.Test.YtilhkgfhhkkolaaCcodec
import Derived.Test.YtilhkgfhhkkolaaWireE2
namespace Go.Proofs.Ytilhkgfhhkkolaa.C
open Go Go.RowKit Go.Proofs.Ytilhkgfhhkkolaa.AL
set_option maxRecDepth 100000
set_option maxHeartbeats 40000000
set_option linter.unusedVariables false
set_option linter.unusedSimpArgs false

theorem wire_ReadCount.s (bs : List UInt8) (hb : bs.length ≤ 140737488351232) (h : bs.length < 4) : Pure prog 36 [u8s bs] (.tup [.int .i64 0, .int .i64 0, .int .i64 7]) := by
  refine pure_of_vc wire_ReadCount.k (by simp) ?_
  conv => whnf
  repeat' ((first | (with_reducible refine hid_mk ?_) | (with_reducible refine bcase_dt (by omega) ?_)) <;> (conv => whnf))
  exact fin_pure rfl (by simp)
theorem wire_ReadCount.m (bs : List UInt8) (hb : bs.length ≤ 140737488351232) (h : 4 ≤ bs.length) (h2 : numL (bs.take 4) > 2147483647) : Pure prog 36 [u8s bs] (.tup [.int .i64 0, .int .i64 0, .int .i64 8]) := by
  have hT := wire_taker_1.a4 bs h hb
  generalize numL (bs.take 4) = n at hT h2
  refine pure_of_vc wire_ReadCount.k (by simp) ?_
  conv => whnf
  repeat' ((first | (with_reducible refine hid_mk ?_) | (with_reducible refine bcase_dt (by omega) ?_) | (with_reducible refine bcase_df (by omega) ?_) | (with_reducible refine fin_inl ?_) | (with_reducible refine acalls_of_vc wire_taker.k ?_) | ((with_reducible refine acalls_guard (hT) ?_); (refine ACalls.useN (hT) [0] [] (by simp) (by (first | ((repeat (first | with_reducible exact RsL.nil | with_reducible refine RsL.cons (Rs.int_eq (by first | rfl)) ?_ | with_reducible refine RsL.cons (Rs.ptr _ _ _ rfl) ?_)); done) | fail)) ⟨by (first | (refine objR_cells (by simp) rfl ?_; (first | (refine rsl_lit ?_; (conv => whnf); with_reducible refine hid_mk ?_; (repeat (first | with_reducible exact RsL.nil | refine RsL.cons (Rs.eq rfl (by first | exact idLt_mapI (by intro a; simp))) ?_)); done) | fail)) | fail), trivial⟩ [.cells [u8s (bs.drop 4)] none] (.int .u64 n) (by first | exact .eq rfl (by first | (simp; done)) | fail) ⟨by (first | (refine objR_cells (by simp) rfl ?_; (first | (refine rsl_lit ?_; (conv => whnf); with_reducible refine hid_mk ?_; (repeat (first | with_reducible exact RsL.nil | refine RsL.cons (Rs.eq rfl (by first | exact idLt_mapI (by intro a; simp))) ?_)); done) | fail)) | fail), trivial⟩ ?_)) | (with_reducible refine fin_hb (by kernel_rfl)) | (with_reducible refine And.intro (fin_el ?_) ?_)) <;> (conv => whnf))
  exact fin_pure rfl (by simp)
theorem wire_ReadCount.g (bs : List UInt8) (hb : bs.length ≤ 140737488351232) (h : 4 ≤ bs.length) (h2 : numL (bs.take 4) ≤ 2147483647) : Pure prog 36 [u8s bs] (.tup [.int .i64 (numL (bs.take 4)), .int .i64 4, .int .i64 0]) := by
  have hT := wire_taker_1.a4 bs h hb
  generalize numL (bs.take 4) = n at hT h2 ⊢
  refine pure_of_vc wire_ReadCount.k (by simp) ?_
  conv => whnf
  repeat' ((first | (with_reducible refine hid_mk ?_) | (with_reducible refine bcase_df (by omega) ?_) | (with_reducible refine fin_inl ?_) | (with_reducible refine acalls_of_vc wire_taker.k ?_) | ((with_reducible refine acalls_guard (hT) ?_); (refine ACalls.useN (hT) [0] [] (by simp) (by (first | ((repeat (first | with_reducible exact RsL.nil | with_reducible refine RsL.cons (Rs.int_eq (by first | rfl)) ?_ | with_reducible refine RsL.cons (Rs.ptr _ _ _ rfl) ?_)); done) | fail)) ⟨by (first | (refine objR_cells (by simp) rfl ?_; (first | (refine rsl_lit ?_; (conv => whnf); with_reducible refine hid_mk ?_; (repeat (first | with_reducible exact RsL.nil | refine RsL.cons (Rs.eq rfl (by first | exact idLt_mapI (by intro a; simp))) ?_)); done) | fail)) | fail), trivial⟩ [.cells [u8s (bs.drop 4)] none] (.int .u64 n) (by first | exact .eq rfl (by first | (simp; done)) | fail) ⟨by (first | (refine objR_cells (by simp) rfl ?_; (first | (refine rsl_lit ?_; (conv => whnf); with_reducible refine hid_mk ?_; (repeat (first | with_reducible exact RsL.nil | refine RsL.cons (Rs.eq rfl (by first | exact idLt_mapI (by intro a; simp))) ?_)); done) | fail)) | fail), trivial⟩ ?_)) | (with_reducible refine wnum_i64 (by omega) ?_) | (with_reducible refine fin_hb (by kernel_rfl)) | (with_reducible refine And.intro (fin_el ?_) ?_)) <;> (conv => whnf))
  exact fin_pure rfl (by simp)

/-- The message that a piece holds: its kind, round, worker, list. -/
def mK (bs : List UInt8) : Int := (gt bs 0).toNat
def mR (bs : List UInt8) : Nat := numL ((bs.drop 1).take 4)
def mW (bs : List UInt8) : Nat := numL ((bs.drop 5).take 4)
abbrev mL (bs : List UInt8) : List UInt8 := bs.drop 9
/-- Is it one? -/
structure MOk (bs : List UInt8) : Prop where
  len : 9 ≤ bs.length
  kind : mK bs = 1 ∨ mK bs = 2
  round : mR bs < 65536
  worker : mW bs < 64
  list : rlE (mL bs) = 0
  all : bs.length = 9 + (5 + rlN (mL bs) * rlW (mL bs))
  few : rlN (mL bs) ≤ 64
abbrev mMsg (bs : List UInt8) : List AV := [.int .u8 (mK bs), .int .i64 (mR bs), .int .i64 (mW bs), .int .u8 (rlF (mL bs)), u64s (rlL (mL bs))]
abbrev mNone : List AV := [.int .u8 0, .int .i64 0, .int .i64 0, .int .u8 0, .lit (.slice none 0 0)]

theorem wire_ReadList.a (bs : List UInt8) (hb : bs.length ≤ 140737488351232) : Pure prog 45 [u8s bs] (rlV bs) := by
  by_cases h1 : (gt bs 0).toNat = 1
  · exact wire_ReadList.c1 bs hb h1
  · by_cases h2 : (gt bs 0).toNat = 2
    · exact wire_ReadList.c2 bs hb h2
    · exact wire_ReadList.c0 bs hb h1 h2
theorem wire_ReadList.g (bs : List UInt8) (hb : bs.length ≤ 140737488351232) (h : rlE bs = 0) : Pure prog 45 [u8s bs] (.tup [.int .u8 (rlF bs), u64s (rlL bs), .int .i64 (5 + rlN bs * rlW bs), .int .i64 0]) := by
  have := wire_ReadList.a bs hb; rwa [rlV, if_pos h] at this
theorem wire_ReadList.n (bs : List UInt8) (hb : bs.length ≤ 140737488351232) (h : rlE bs ≠ 0) : Pure prog 45 [u8s bs] (.tup [.int .u8 0, .lit (.slice none 0 0), .int .i64 0, .int .i64 (rlE bs)]) := by
  have := wire_ReadList.a bs hb; rwa [rlV, if_neg h] at this

set_option maxRecDepth 1000000
theorem rlE_in {bs : List UInt8} (h : rlE bs = 0) : inB (rlF bs) (rlL bs) = true ∧ rlN bs ≤ 4096 ∧ 5 + rlN bs * rlW bs ≤ bs.length := by
  unfold rlE at h
  (repeat' split at h) <;> first | (exact absurd h (by decide)) | exact ⟨by assumption, by omega, by omega⟩

theorem codec_parts.s (bs : List UInt8) (hbs : bs.length ≤ 140737488351232) (h : MOk bs) : Pure prog 24 [u8s bs] (.tup [.agg (mMsg bs), .bool true]) := by
  obtain ⟨h1, h2, h3, h4, h5, h6, h7⟩ := h
  have hR := wire_ReadCount.g (bs.drop 1) (by simp; omega) (by simp; omega) (by unfold mR at h3; omega)
  have hW := wire_ReadCount.g (bs.drop 5) (by simp; omega) (by simp; omega) (by unfold mW at h4; omega)
  have hk : ((gt bs (Int.toNat 0)).toNat : Int) = 1 ∨ ((gt bs (Int.toNat 0)).toNat : Int) = 2 := h2
  have hIn := (rlE_in h5).1
  have hI := field_In.a (rlF (mL bs)) (rlL (mL bs)) (by rw [rlL_length]; omega)
  have hll := rlL_length (mL bs)
  have hRd : mR bs = numL ((bs.drop 1).take 4) := rfl
  have hWd : mW bs = numL ((bs.drop 5).take 4) := rfl
  have hL := wire_ReadList.g (mL bs) (by simp; omega) h5
  refine pure_of_def codec_parts.k (by simp) ?_
  conv => whnf
  repeat' ((first | (with_reducible refine hid_mk ?_) | (with_reducible refine bcase_not ?_) | (with_reducible refine bcase_true (by with_reducible assumption) ?_) | (with_reducible refine bcase_dt (by omega) ?_) | (with_reducible refine bcase_et (by omega) ?_) | (with_reducible refine bcase_beq (fun hb => ?_) (fun hb => ?_)) | (with_reducible refine both_mk rfl ?_) | (with_reducible refine fin_inl ?_) | (with_reducible refine acalls_of_vc codec_need.k ?_) | (with_reducible refine acalls_of_vc codec_parts_2.k ?_) | (with_reducible refine acalls_of_vc codec_parts_3.k ?_) | (with_reducible refine acalls_of_vc codec_parts_3_1.k ?_) | (with_reducible refine acalls_of_vc codec_parts_4.k ?_) | (with_reducible refine acalls_of_vc codec_May.k ?_) | ((with_reducible refine pure_guard (hR) ?_); (refine Pure.use0 (hR) (by (first | ((repeat (first | with_reducible exact RsL.nil | refine RsL.cons (rs_isl (by simp) (by first | (simp; done))) ?_)); done) | fail)) ?_)) | ((with_reducible refine pure_guard (hW) ?_); (refine Pure.use0 (hW) (by (first | ((repeat (first | with_reducible exact RsL.nil | refine RsL.cons (rs_isl (by simp) (by first | (simp; omega))) ?_)); done) | fail)) ?_)) | ((with_reducible refine pure_guard (hL) ?_); (refine Pure.use0 (hL) (by (first | ((repeat (first | with_reducible exact RsL.nil | refine RsL.cons (rs_isl (by simp) (by first | (simp; omega))) ?_)); done) | fail)) ?_)) | (refine ⟨_, _, rfl, by kernel_rfl, ?_⟩) | (with_reducible refine adef_of_chkRec codec_parts_1.k (by simp) ?_) | (refine wcut_dr 1 (by omega) (by omega) ?_) | (refine wcut_dd 1 4 5 rfl (by omega) (by omega) ?_) | (refine wcut_dd 5 4 9 rfl (by omega) (by omega) ?_) | (refine wcut_dd 9 (5 + rlN (mL bs) * rlW (mL bs)) _ rfl (by omega) (by omega) ?_) | ((with_reducible refine pure_guard (hI) ?_); (refine Pure.useB (hI) (.bool _) [] (by (first | ((repeat (first | with_reducible exact RsL.nil | with_reducible refine RsL.cons (Rs.int_eq (by first | rfl)) ?_ | refine RsL.cons (Rs.eq rfl (by first | exact idLt_mapI (by intro a; simp))) ?_)); done) | fail)) ?_)) | (with_reducible refine wfoc_map (by first | omega) ?_) | (with_reducible refine fin_hb (by kernel_rfl)) | (with_reducible refine And.intro (by first | with_reducible assumption | omega | (simp; done) | (simp; omega)) ?_) | (with_reducible refine And.intro (fin_el ?_) ?_)) <;> (conv => whnf))
  all_goals exact fin_pure rfl (by simp)

end Go.Proofs.Ytilhkgfhhkkolaa.C
