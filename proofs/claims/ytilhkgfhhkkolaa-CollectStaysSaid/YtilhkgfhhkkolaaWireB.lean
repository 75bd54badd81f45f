/- Numbers as bytes. -/
import Derived.Test.YtilhkgfhhkkolaaWireA
namespace Go.Proofs.Ytilhkgfhhkkolaa.C
open Go Go.RowKit Go.Proofs.Ytilhkgfhhkkolaa.AL
set_option maxRecDepth 100000
set_option maxHeartbeats 40000000
set_option linter.unusedVariables false
set_option linter.unusedSimpArgs false

/-- A number as so many bytes. -/
def wide (n k : Nat) : List UInt8 := (List.range k).map fun m => UInt8.ofNat (n / 256 ^ (k - 1 - m))
theorem wide_length (n k : Nat) : (wide n k).length = k := by simp [wide]
theorem gt_wide {n k m : Nat} (h : m < k) : gt (wide n k) m = UInt8.ofNat (n / 256 ^ (k - 1 - m)) := by simp [gt, wide, h]
theorem wshr8 {a j : Nat} {b : Int} {K : Int → Prop} (hb : b = 8 * j) (hj : j ≤ 7) (q : K ((a / 256 ^ j : Nat) : Int)) : wshr .u64 a b K := by
  subst hb
  refine ⟨by omega, ?_⟩
  have e : min (Int.toNat (8 * j)) (IntKind.bits .u64) = 8 * j := by
    have : IntKind.bits .u64 = 64 := rfl
    omega
  rw [e, Int.fdiv_eq_ediv_of_nonneg _ (Int.pow_nonneg (by decide))]
  rw [show (256 : Nat) ^ j = 2 ^ (8 * j) by rw [Nat.pow_mul]] at q
  have e2 : ((a / 2 ^ (8 * j) : Nat) : Int) = (a : Int) / 2 ^ (8 * j) := by push_cast; rfl
  rw [← e2]; exact q
theorem wnum_ofNat {m : Nat} {K : Int → Prop} (q : K ((UInt8.ofNat m).toNat : Int)) : wnum .u8 (m : Int) K := by
  refine ⟨?_⟩
  have : IntKind.u8.wrap (m : Int) = ((UInt8.ofNat m).toNat : Int) := by
    simp [IntKind.wrap, IntKind.signed, IntKind.bits]
  rw [this]; exact q

theorem ref08_Wide.a (n k0 : Nat) (hk : k0 ≤ 8) (hn : n < 18446744073709551616) : Pure prog 30 [.int .u64 n, .int .i64 k0] (u8s (wide n k0)) := by
  refine pure_of_vc ref08_Wide.k (by simp) ?_
  conv => whnf
  repeat' ((first | (with_reducible refine hid_mk ?_) | (with_reducible refine vblk_same ?_) | (with_reducible refine wnum_i64 (by omega) ?_)) <;> (conv => whnf))
  have hwl := wide_length n k0
  refine vloopW ref08_Wide.D0 (fun k : Nat => [(6, .int .i64 ((k0 : Int) - 1 - k)), (5, ownV 0 ((wide n k0).take k))]) (fun k => ownO byt 1 ((wide n k0).take k)) (fun k => k ≤ k0) (fun k => k0 - k) 0 (by omega) rfl ?_ ?_
  · (with_reducible refine wk_force ?_); (conv => whnf); (with_reducible refine hid_mk ?_); (repeat (first | with_reducible refine Wk.wild ?_ | refine Wk.cons (by first | with_reducible rfl | exact congrArg (AV.int _) (by first | rfl | omega) | rfl | fail) ?_)); with_reducible exact Wk.nil
  rintro k h1 Q' hn hx
  try dsimp only at h1 ⊢
  have hsn := fun h : k < k0 => (show (wide n k0).take (k + 1) = (wide n k0).take k ++ [_] from (take_gt (l := wide n k0) (j := k) (by omega)).trans (congrArg (fun x => (wide n k0).take k ++ [x]) (gt_wide h)))
  have hlk : ((wide n k0).take k).length = k := by rw [List.length_take]; omega
  have hTL := fun h : k0 ≤ k => (show (wide n k0).take k = wide n k0 from List.take_of_length_le (by omega))
  by_cases hT : (wide n k0).take k = []
  · have hk0 : k = 0 := by rw [hT] at hlk; exact hlk.symm
    rw [hT] at hsn
    simp only [hT, ownV_nil, ownO_nil]
    conv => whnf
    repeat' ((first | (with_reducible refine hid_mk ?_) | (with_reducible refine bcase_dec (fun hb => ?_) (fun hb => ?_)) | (with_reducible refine hx _ _ _ rfl ?_) | (refine wshr8 (j := k0 - 1 - k) (by omega) (by omega) ?_) | (with_reducible refine wnum_ofNat ?_) | (with_reducible refine vblk_same ?_) | (with_reducible refine wnum_i64 (by omega) ?_) | (with_reducible refine wnum_u64 (by omega) ?_) | (with_reducible refine wcut_all (by first | (simp; done)) ?_) | (with_reducible refine ask_mk (by first | with_reducible assumption | omega) ?_) | (with_reducible refine And.intro (by first | with_reducible assumption | (simp; done)) ?_)) <;> (conv => whnf))
    all_goals first
      | (((refine hn (k + 1) (by omega) (by omega) _ _ (.inr (next_fin (fun ts h => [tsId ts 5 0]) ?_))); (simp only [hsn (by omega), ownV_snoc, ownO_snoc]); (conv => whnf); (refine hid_mk ⟨⟨?_, trivial⟩, ?_⟩); (all_goals first | (first | exact objR_same (by simp) rfl (by first | rfl | fail) (by first | (simp; done)) | fail) | ((with_reducible refine rsl_force ?_); (conv => whnf); (with_reducible refine hid_mk ?_); (repeat (first | with_reducible exact RsL.nil | with_reducible refine RsL.cons (Rs.wild _) ?_ | with_reducible refine RsL.cons (Rs.int_eq (by first | rfl | omega)) ?_ | with_reducible refine RsL.cons (Rs.slice_eq rfl (by first | rfl) (by first | rfl | (simp; done)) (by first | rfl | (simp; done))) ?_ | refine RsL.cons (Rs.eq rfl (by first | (simp; done))) ?_))))); done)
      | (exact fin_rs [] (rs_nilM ((hTL (by omega)).symm.trans hT)); done)
      | fail
  · simp only [ownV_ne hT, ownO_ne hT, hlk]
    conv => whnf
    repeat' ((first | (with_reducible refine hid_mk ?_) | (with_reducible refine bcase_dec (fun hb => ?_) (fun hb => ?_)) | (with_reducible refine hx _ _ _ rfl ?_) | (refine wshr8 (j := k0 - 1 - k) (by omega) (by omega) ?_) | (with_reducible refine wnum_ofNat ?_) | (with_reducible refine vblk_same ?_) | (with_reducible refine wnum_i64 (by omega) ?_) | (with_reducible refine wnum_u64 (by omega) ?_) | (with_reducible refine wcut_all (by first | (simp; done)) ?_) | (with_reducible refine wcat_map (by first | with_reducible assumption | omega) ?_) | (with_reducible refine wroom_grow (by omega) ?_) | (with_reducible refine ask_mk (by first | with_reducible assumption | omega | (refine ⟨by first | omega | (simp; done) | (simp; omega), by first | rfl | (simp [AV.isCell]; done) | (simp; omega)⟩)) ?_) | (with_reducible refine And.intro (by first | with_reducible assumption | (simp; done)) ?_)) <;> (conv => whnf))
    all_goals first
      | (((refine hn (k + 1) (by omega) (by omega) _ _ (.inr (next_fin (fun ts h => [tsId ts 5 0]) ?_))); (simp only [hsn (by omega), ownV_snoc, ownO_snoc]); (conv => whnf); (refine hid_mk ⟨⟨?_, trivial⟩, ?_⟩); (all_goals first | (first | exact objR_same (by simp) rfl (by first | rfl | fail) (by first | exact idLt_map.2 (fun _ _ => by simp)) | fail) | ((with_reducible refine rsl_force ?_); (conv => whnf); (with_reducible refine hid_mk ?_); (repeat (first | with_reducible exact RsL.nil | with_reducible refine RsL.cons (Rs.wild _) ?_ | with_reducible refine RsL.cons (Rs.int_eq (by first | rfl | omega)) ?_ | with_reducible refine RsL.cons (Rs.slice_eq rfl (by first | rfl) (by first | rfl | omega) (by first | rfl | omega)) ?_ | refine RsL.cons (Rs.eq rfl (by first | (simp; done))) ?_))))); done)
      | (exact fin_rs [0] (rs_slice (by simp) rfl (by rw [hTL (by omega)]) (by omega) (by simp)); done)
      | fail


end Go.Proofs.Ytilhkgfhhkkolaa.C
