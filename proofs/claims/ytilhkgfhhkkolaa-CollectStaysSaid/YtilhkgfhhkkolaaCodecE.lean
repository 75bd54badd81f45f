/- The document's writer of messages. -/
import Derived.Test.YtilhkgfhhkkolaaCodecD
import Derived.Test.YtilhkgfhhkkolaaWireG
namespace Go.Proofs.Ytilhkgfhhkkolaa.C
open Go Go.RowKit Go.Proofs.Ytilhkgfhhkkolaa.AL
set_option maxRecDepth 100000
set_option maxHeartbeats 40000000
set_option linter.unusedVariables false
set_option linter.unusedSimpArgs false

theorem ref20_Write.n (K r w f : Int) (L : List Int) (hl : L.length ≤ 17592186043904) (h : ¬ ((K = 1 ∨ K = 2) ∧ (0 ≤ r ∧ r < 65536) ∧ (0 ≤ w ∧ w < 64) ∧ inB f L = true ∧ L.length ≤ 64)) :
    Pure prog 18 [.agg [.int .u8 K, .int .i64 r, .int .i64 w, .int .u8 f, u64s L]] (.tup [.lit (.slice none 0 0), .int .i64 2]) := by
  have hI := ref01_In.a f L hl
  refine pure_of_vc ref20_Write.k (by simp) ?_
  conv => whnf
  repeat' ((first | (with_reducible refine hid_mk ?_) | (with_reducible refine bcase_not ?_) | (with_reducible refine bcase_dec (fun hb => ?_) (fun hb => ?_)) | (with_reducible refine bcase_beq (fun hb => ?_) (fun hb => ?_)) | (with_reducible refine bcase_mk (fun hb => ?_) (fun hb => ?_)) | (with_reducible refine both_mk rfl ?_) | (with_reducible refine alts_mk ?_ ?_) | (with_reducible refine fin_inl ?_) | (with_reducible refine acalls_of_vc ref20_May.k ?_) | (with_reducible refine Pure.use (hI) ?_) | (with_reducible refine wnum_u64 (by omega) ?_)) <;> (conv => whnf))
  all_goals first | exact fin_pure rfl (by simp; done) | exact absurd ⟨by omega, by omega, by omega, by assumption, by omega⟩ h

theorem fnv_range (l : List UInt8) : 0 ≤ fnv l ∧ fnv l < 18446744073709551616 := by
  have w : ∀ x : Int, 0 ≤ IntKind.u64.wrap x ∧ IntKind.u64.wrap x < 18446744073709551616 := by
    intro x
    simp only [IntKind.wrap, IntKind.signed, IntKind.bits, Bool.false_and]
    constructor
    · exact Int.emod_nonneg _ (by decide)
    · exact Int.emod_lt_of_pos _ (by decide)
  have k : ∀ (l : List UInt8) (s : Int), (0 ≤ s ∧ s < 18446744073709551616) → 0 ≤ l.foldl fnvS s ∧ l.foldl fnvS s < 18446744073709551616 := by
    intro l
    induction l with
    | nil => intro s h; exact h
    | cons c l ih => intro s _; exact ih _ (by unfold fnvS; exact w _)
  unfold fnv
  exact k l _ (by decide)
/-- The end of a function that answers one new object. -/
theorem fin_own {v v' : AV} {h : Heap} {o : AObj} (i : Nat) (hv : Rs h [i] [] v v') (ho : ObjR h [i] [] i o) : fin (Back 0 (fun e h' => e = .ret v' ∧ h' = [o]) (.ret v) h) :=
  fin_mk (.mk' ⟨[i], [], .ret v', [o], hv, ⟨ho, trivial⟩, by simp, fun j hj => absurd hj (by omega), rfl, rfl⟩)
theorem ref08_Wide.o (n : Nat) (hn : n < 18446744073709551616) : ACalls prog 30 [.int .u64 n, .int .i64 4] [] fun e h' => e = .ret (.slice 0 0 4 4) ∧ h' = [.cells ((wide n 4).map byt) (some 1)] := by
  refine acalls_of_vc ref08_Wide.k ?_
  conv => whnf
  repeat' ((first | (with_reducible refine hid_mk ?_) | (with_reducible refine vblk_same ?_) | (with_reducible refine wnum_i64 (by omega) ?_)) <;> (conv => whnf))
  have hwl := wide_length n 4
  refine vloopW ref08_Wide.D0 (fun k : Nat => [(6, .int .i64 ((4 : Int) - 1 - k)), (5, ownV 0 ((wide n 4).take k))]) (fun k => ownO byt 1 ((wide n 4).take k)) (fun k => k ≤ 4) (fun k => 4 - k) 0 (by omega) rfl ?_ ?_
  · (with_reducible refine wk_force ?_); (conv => whnf); (with_reducible refine hid_mk ?_); (repeat (first | with_reducible refine Wk.wild ?_ | refine Wk.cons (by first | with_reducible rfl | exact congrArg (AV.int _) (by first | rfl) | rfl | fail) ?_)); with_reducible exact Wk.nil
  rintro k h1 Q' hn hx
  try dsimp only at h1 ⊢
  have hsn := fun h : k < 4 => (show (wide n 4).take (k + 1) = (wide n 4).take k ++ [_] from (take_gt (l := wide n 4) (j := k) (by omega)).trans (congrArg (fun x => (wide n 4).take k ++ [x]) (gt_wide h)))
  have hlk : ((wide n 4).take k).length = k := by rw [List.length_take]; omega
  have hTL := fun h : 4 ≤ k => (show (wide n 4).take k = wide n 4 from List.take_of_length_le (by omega))
  by_cases hT : (wide n 4).take k = []
  · have hk0 : k = 0 := by rw [hT] at hlk; exact hlk.symm
    rw [hT] at hsn
    simp only [hT, ownV_nil, ownO_nil]
    conv => whnf
    repeat' ((first | (with_reducible refine hid_mk ?_) | (with_reducible refine bcase_dt (by omega) ?_) | (refine wshr8 (j := 4 - 1 - k) (by omega) (by omega) ?_) | (with_reducible refine wnum_ofNat ?_) | (with_reducible refine vblk_same ?_) | (with_reducible refine wnum_i64 (by omega) ?_) | (with_reducible refine wnum_u64 (by omega) ?_) | (with_reducible refine wcut_all (by first | (simp; done)) ?_) | (with_reducible refine ask_mk (by first | with_reducible assumption | omega) ?_) | (with_reducible refine And.intro (by first | with_reducible assumption | (simp; done)) ?_)) <;> (conv => whnf))
    all_goals first
      | (((refine hn (k + 1) (by omega) (by omega) _ _ (.inr (next_fin (fun ts h => [tsId ts 5 0]) ?_))); (simp only [hsn (by omega), ownV_snoc, ownO_snoc]); (conv => whnf); (refine hid_mk ⟨⟨?_, trivial⟩, ?_⟩); (all_goals first | (first | exact objR_same (by simp) rfl (by first | rfl | fail) (by first | (simp; done)) | fail) | ((with_reducible refine rsl_force ?_); (conv => whnf); (with_reducible refine hid_mk ?_); (repeat (first | with_reducible exact RsL.nil | with_reducible refine RsL.cons (Rs.wild _) ?_ | with_reducible refine RsL.cons (Rs.int_eq (by first | rfl | omega)) ?_ | with_reducible refine RsL.cons (Rs.slice_eq rfl (by first | rfl) (by first | rfl | (simp; done)) (by first | rfl | (simp; done))) ?_ | refine RsL.cons (Rs.eq rfl (by first | (simp; done))) ?_))))); done)
      | (exact fin_own 0 (.slice_eq rfl rfl (by omega) (by omega)) (objR_same (by simp) rfl (by rw [hTL (by omega)]) (by simp)); done)
      | fail
  · simp only [ownV_ne hT, ownO_ne hT, hlk]
    conv => whnf
    repeat' ((first | (with_reducible refine hid_mk ?_) | (with_reducible refine bcase_dec (fun hb => ?_) (fun hb => ?_)) | (with_reducible refine hx _ _ _ rfl ?_) | (refine wshr8 (j := 4 - 1 - k) (by omega) (by omega) ?_) | (with_reducible refine wnum_ofNat ?_) | (with_reducible refine vblk_same ?_) | (with_reducible refine wnum_i64 (by omega) ?_) | (with_reducible refine wnum_u64 (by omega) ?_) | (with_reducible refine wcut_all (by first | (simp; done)) ?_) | (with_reducible refine wcat_map (by first | with_reducible assumption | omega) ?_) | (with_reducible refine wroom_grow (by omega) ?_) | (with_reducible refine ask_mk (by first | with_reducible assumption | omega | (refine ⟨by first | omega | (simp; done) | (simp; omega), by first | rfl | (simp [AV.isCell]; done) | (simp; omega)⟩)) ?_) | (with_reducible refine And.intro (by first | with_reducible assumption | (simp; done)) ?_)) <;> (conv => whnf))
    all_goals first
      | (((refine hn (k + 1) (by omega) (by omega) _ _ (.inr (next_fin (fun ts h => [tsId ts 5 0]) ?_))); (simp only [hsn (by omega), ownV_snoc, ownO_snoc]); (conv => whnf); (refine hid_mk ⟨⟨?_, trivial⟩, ?_⟩); (all_goals first | (first | exact objR_same (by simp) rfl (by first | rfl | fail) (by first | exact idLt_map.2 (fun _ _ => by simp)) | fail) | ((with_reducible refine rsl_force ?_); (conv => whnf); (with_reducible refine hid_mk ?_); (repeat (first | with_reducible exact RsL.nil | with_reducible refine RsL.cons (Rs.wild _) ?_ | with_reducible refine RsL.cons (Rs.int_eq (by first | rfl | omega)) ?_ | with_reducible refine RsL.cons (Rs.slice_eq rfl (by first | rfl) (by first | rfl | omega) (by first | rfl | omega)) ?_ | refine RsL.cons (Rs.eq rfl (by first | (simp; done))) ?_))))); done)
      | (exact fin_own 0 (.slice_eq rfl rfl (by omega) (by omega)) (objR_same (by simp) rfl (by rw [hTL (by omega)]) (by simp)); done)
      | fail


theorem ref08_Seal.a (w : List UInt8) (hw : w.length ≤ 1048576) : Pure prog 32 [u8s w] (.tup [u8s (sealB w), .int .i64 0]) := by
  have hO := ref08_Wide.o w.length (by omega)
  have hwl := wide_length w.length 4
  have hSl : (sealB w).length = w.length + 12 := sealB_length w
  have hSd : sealB w = (wide w.length 4 ++ w) ++ wide (fnv (wide w.length 4 ++ w)).toNat 8 := rfl
  have hAl : (wide w.length 4 ++ w).length = 4 + w.length := by simp [hwl]
  have hS := ref08_Sum.a (wide w.length 4 ++ w) (by omega)
  have hfr : 0 ≤ fnv (wide w.length 4 ++ w) ∧ fnv (wide w.length 4 ++ w) < 18446744073709551616 := fnv_range _
  have hW := ref08_Wide.i (fnv (wide w.length 4 ++ w)) 8 hfr (by omega)
  have hWl := wide_length (fnv (wide w.length 4 ++ w)).toNat (Int.toNat 8)
  have e8 : Int.toNat 8 = 8 := rfl
  rw [e8] at hW hWl
  rw [hSd]
  generalize hC : wide (fnv (wide w.length 4 ++ w)).toNat 8 = C at hW hWl
  generalize hB : wide w.length 4 = B at hO hwl hAl hS hW
  generalize fnv (B ++ w) = s at hS hW
  refine pure_of_vc ref08_Seal.k (by simp) ?_
  conv => whnf
  repeat' ((first | (with_reducible refine hid_mk ?_) | (with_reducible refine bcase_df (by omega) ?_) | (with_reducible refine bcase_nbF (by omega) ?_) | (with_reducible refine bcase_nbeq (fun hb => ?_) (fun hb => ?_)) | (with_reducible refine ACalls.use (hO) ?_) | ((with_reducible refine pure_guard hS ?_); (refine Pure.useB hS (.int _ _) [0] (.cons (rs_slice (f := byt) (l := B ++ w) (by decide) rfl (by first | (rw [List.length_eq_zero_iff.1 (by assumption : w.length = 0), List.append_nil]; done) | fail) (by omega) (by simp)) .nil) ?_)) | ((with_reducible refine pure_guard hS ?_); (refine Pure.useB hS (.int _ _) [1] (.cons (rs_slice (f := byt) (l := B ++ w) (by decide) rfl (by first | rfl | fail) (by omega) (by simp)) .nil) ?_)) | (with_reducible refine Pure.use (hW) ?_) | (with_reducible refine wnum_u64 (by omega) ?_) | (with_reducible refine wcat_maps (by first | omega) ?_) | (with_reducible refine wroom_grow (by omega) ?_) | (with_reducible refine ask_mk (by first | with_reducible assumption | omega | (refine ⟨by first | omega | (simp; done) | (simp; omega), by first | rfl | (simp [AV.isCell]; done) | (simp; omega)⟩)) ?_) | (with_reducible refine And.intro (by first | with_reducible assumption | (simp; done)) ?_)) <;> (conv => whnf))
  case refine_1 => exact fin_rs [1] (Rs.tupL (.cons (rs_slice (f := byt) (l := B ++ w ++ C) (by decide) rfl (by rw [List.length_eq_zero_iff.1 (by assumption : w.length = 0), List.append_nil]) (by simp only [List.length_append]; omega) (by simp)) (.cons (.int_eq rfl) .nil)))
  case refine_2 =>
    refine fin_rs [2] (Rs.tupL (.cons ?_ (.cons (.int_eq rfl) .nil)))
    refine rs_slice (f := byt) (l := B ++ w ++ C) (by decide) rfl rfl ?_ (by simp)
    simp only [List.length_append]; omega

end Go.Proofs.Ytilhkgfhhkkolaa.C
