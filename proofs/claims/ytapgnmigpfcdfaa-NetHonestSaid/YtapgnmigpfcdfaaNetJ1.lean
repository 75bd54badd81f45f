/- Layer 21: NetHonest: cases. -/
import Derived.Test.YtapgnmigpfcdfaaNetJ
namespace Go.Proofs.Ytapgnmigpfcdfaa.C
open Go Go.RowKit Go.Proofs.Ytapgnmigpfcdfaa.AL
set_option maxRecDepth 100000
set_option maxHeartbeats 40000000
set_option linter.unusedVariables false
set_option linter.unusedSimpArgs false

theorem nh_c1 (ops : List NOp) (hl : ops.length ≤ 2932031007317) (j : Nat) (L : List Pkt) (N : NN) (t : Nat) (S : List Pkt) (hlt : j < ops.length) (hO : HOk j ⟨j, L, N, t, S⟩) (hL : L = []) (hS : S ≠ []) (Q2' : Post) (hj : nhJ ops j Q2') : vc prog 0 nhB Q2' (nhT ops j S) (nhH ops j L N t S) := by
  obtain ⟨hN, hs, hd, hk, hsum, hL4, hLo, hLS, hSl⟩ := hO
  dsimp only at hN hs hd hk hsum hL4 hLo hLS hSl
  have hN0 : N.n ≠ 0 := by omega
  subst hL
  have hfS : (S.flatMap Pkt.enc ++ wilds 0).length = S.length * 3 := by rw [List.length_append, flat_len (s := 3) (by intro _; rfl)]; rfl
  simp only [nhT, nhH, NN.cs, slV_nil, arO_nil, slV_ne hS, arO_ne hS]
  conv => whnf
  repeat' ((first
    | (with_reducible refine hid_mk ?_)
    | (with_reducible refine bcase_not ?_)
    | (with_reducible refine bcase_true (by with_reducible assumption) ?_)
    | (with_reducible refine bcase_false (by with_reducible assumption) ?_)
    | (with_reducible refine bcase_dt (by omega) ?_)
    | (with_reducible refine bcase_df (by omega) ?_)
    | (with_reducible refine bcase_et (by omega) ?_)
    | (with_reducible refine bcase_ef (by omega) ?_)
    | (with_reducible refine bcase_nt (by omega) ?_)
    | (with_reducible refine bcase_nf (by omega) ?_)
    | (with_reducible refine bcase_dec (fun hb => ?_) (fun hb => ?_))
    | (with_reducible refine bcase_beq (fun hb => ?_) (fun hb => ?_))
    | (with_reducible refine bcase_bne (fun hb => ?_) (fun hb => ?_))
    | (with_reducible refine bcase_strT (by first | with_reducible assumption | rfl | (simp; done)) ?_)
    | (with_reducible refine bcase_strF (by first | with_reducible assumption | (simp; done)) ?_)
    | (with_reducible refine bcase_str (fun hb => ?_) (fun hb => ?_))
    | (with_reducible refine bcase_nbT (by omega) ?_)
    | (with_reducible refine bcase_nbF (by omega) ?_)
    | (with_reducible refine bcase_nbeq (fun hb => ?_) (fun hb => ?_))
    | (with_reducible refine bcase_mk (fun hb => ?_) (fun hb => ?_))
    | (with_reducible refine both_mk rfl ?_)
    | (with_reducible refine alts_mk ?_ ?_)
    | (with_reducible refine hx _ _ _ rfl ?_)
    | (with_reducible refine hx2 _ _ _ rfl ?_)
    | (with_reducible refine fin_inl ?_)
    | (with_reducible refine acalls_of_vc net_Net_Send.k ?_)
    | (with_reducible refine acalls_of_vc net_Net_none.k ?_)
    | (with_reducible refine acalls_of_vc net_Net_put.k ?_)
    | (with_reducible refine acalls_of_vc net_fresh.k ?_)
    | (with_reducible refine acalls_of_vc bytes_Clone.k ?_)
    | (with_reducible refine acalls_of_vc sync_atomic_Int64_Add.k ?_)
    | (with_reducible refine acalls_of_vc ref08_Bytes.k ?_)
    | (with_reducible refine acalls_of_vc net_Net_Deliver.k ?_)
    | (with_reducible refine acalls_of_vc net_Net_place.k ?_)
    | (with_reducible refine acalls_of_vc net_Net_Drop.k ?_)
    | (with_reducible refine acalls_of_vc net_Net_Double.k ?_)
    | (with_reducible refine acalls_of_vc ref21_One.k ?_)
    | (with_reducible refine acalls_of_vc ref08_Same.k ?_)
    | (with_reducible refine acalls_of_vc net_Net_Move.k ?_)
    | ((with_reducible refine aext_guard 43 ?_); (refine atomic_add rfl rfl ?_))
    | ((refine vloopW law21_NetHonest.D1 (fun s : Nat × Bool => [(10, .bool s.2), (11, .int .i64 s.1)]) (fun _ => _) (fun s => s.1 ≤ S.length ∧ s.2 = true) (fun s => S.length - s.1) (0, true) (by exact ⟨by omega, rfl⟩) rfl (by (with_reducible refine wk_force ?_); (conv => whnf); (with_reducible refine hid_mk ?_); (repeat (first | with_reducible refine Wk.wild ?_ | refine Wk.cons (by first | with_reducible rfl | exact congrArg (AV.int _) (by first | rfl | omega | (simp; done) | (simp; omega)) | rfl | (simp; done) | fail) ?_)); with_reducible exact Wk.nil) ?_); (rintro ⟨k, fl⟩ ⟨hk1, hfl⟩ Q2 hn2 hx2); (dsimp only at hk1 hfl ⊢))
    | (with_reducible refine ask_mk ⟨by omega, by first | rfl | (simp [AV.isCell]; done) | exact isCells_fl _⟩ ?_)
    | (with_reducible refine vblk_same ?_)
    | (with_reducible refine hxb _ _ _ rfl ?_)
    | (with_reducible refine wnum_byU ?_)
    | (with_reducible refine wnum_byI ?_)
    | (with_reducible refine wnum_byB ?_)
    | (with_reducible refine wnum_i64 (by omega) ?_)
    | (with_reducible refine wnum_u64 (by omega) ?_)
    | (with_reducible refine wnum_u8 (by omega) ?_)
    | (with_reducible refine wrem_nn (by omega) ?_)
    | (with_reducible refine wnum_mk ?_)
    | (with_reducible refine wfoc_mapc (by first | with_reducible assumption | omega | (simp; done) | (simp; omega)) ?_)
    | (with_reducible refine wfoc_map (by first | with_reducible assumption | omega | (simp; done) | (simp; omega)) ?_)
    | (with_reducible refine wfoc_flatc (by intro _; with_unfolding_all rfl) (by first | with_reducible assumption | omega | (simp; done) | (simp; omega)) ?_)
    | (with_reducible refine wfoc_flat (by intro _; with_unfolding_all rfl) (by first | with_reducible assumption | omega | (simp; done) | (simp; omega)) ?_)
    | (with_reducible refine wald_mapc (by first | with_reducible assumption | omega | (simp; done) | (simp; omega)) ?_)
    | (with_reducible refine wald_map (by first | with_reducible assumption | omega | (simp; done) | (simp; omega)) ?_)
    | (with_reducible refine wald_flc (by intro _; with_unfolding_all rfl) (by first | with_reducible assumption | omega | (simp; done) | (simp; omega)) (by decide) ?_)
    | (with_reducible refine wald_fl (by intro _; with_unfolding_all rfl) (by first | with_reducible assumption | omega | (simp; done) | (simp; omega)) (by decide) ?_)
    | (with_reducible refine wcat_zero (by omega) ?_)
    | (with_reducible refine wcat_flA0 (by intro _; with_unfolding_all rfl) (by first | with_reducible assumption | omega | (simp; done) | (simp; omega)) ?_)
    | (with_reducible refine wcat_flA (by intro _; with_unfolding_all rfl) (by first | with_reducible assumption | omega | (simp; done) | (simp; omega)) ?_)
    | (with_reducible refine wcat_whole (by first | omega | (simp only [List.length_append, List.length_cons, List.length_nil]; omega) | fail) ?_)
    | (with_reducible refine wast_mapc rfl rfl (by first | with_reducible assumption | omega | (simp; done) | (simp; omega)) ?_)
    | (with_reducible refine wast_map rfl rfl (by first | with_reducible assumption | omega | (simp; done) | (simp; omega)) ?_)
    | (with_reducible refine wrep_int ?_)
    | (with_reducible refine wrep_bool ?_)
    | (with_reducible refine wrep_mk ?_)
    | (with_reducible refine wzero_lt (by omega) ?_)
    | (with_reducible refine wzero_eq (by omega) ?_)
    | (with_reducible refine wcut_all (by first | with_reducible assumption | omega | (simp; done) | (simp; omega)) ?_)
    | (with_reducible refine wcut_map ?_)
    | (with_reducible refine wcat_map (by first | with_reducible assumption | omega | (simp; done) | (simp; omega)) ?_)
    | (with_reducible refine wcat_maps (by omega) ?_)
    | (with_reducible refine wroom_grow (by omega) ?_)
    | (with_reducible refine wroom_in (by omega) ?_)
    | (with_reducible refine wstr_map ?_)
    | (with_reducible refine wstr_nil ?_)
    | (refine wfoc_lit (by decide) rfl ?_)
    | (refine wald_lit rfl ?_)
    | (refine wast_lit rfl ?_)
    | (with_reducible refine wcut_lit ?_)
    | (refine wcat_lit rfl ?_)
    | (with_reducible refine ask_mk (by first | with_reducible assumption | omega | (simp; done) | (simp; omega) | (refine ⟨by first | omega | (simp; done) | (simp; omega), by first | rfl | (simp [AV.isCell]; done) | (simp; omega)⟩)) ?_)
    | (with_reducible refine fin_hb (by kernel_rfl))
    | (with_reducible refine fin_nle (by first | omega | (simp; done) | (simp; omega)))
    | (with_reducible refine fin_nat (by first | omega | (simp; done) | (simp; omega)))
    | (with_reducible refine wzero_split (fun hb => ?_) (fun hb => ?_))
    | (with_reducible refine wroom_split (fun hb => ?_) (fun hb => ?_))
    | (with_reducible refine And.intro (hid_mk (fun hb => ?_)) (hid_mk ?_))
    | (with_reducible refine And.intro (by first | with_reducible assumption | omega | (simp; done) | (simp; omega)) ?_)
    | (with_reducible refine And.intro (fin_el ?_) ?_)) <;> (conv => whnf))
  all_goals try first
    | ((have hq0 : (gt ops j).c = 0 := by first | assumption | fail); (have hq1 : ¬ ((gt ops j).bs.length : Int) > 1048576 := by first | assumption | fail); ((refine joinN hj (⟨j, [] ++ [⟨(gt ops j).a, (gt ops j).b, (gt ops j).bs⟩], ⟨N.n, N.s + 1, N.d, N.l⟩, 0, S ++ [⟨(gt ops j).a, (gt ops j).b, (gt ops j).bs⟩]⟩) (by constructor <;> (try dsimp only) <;> first | omega | (simp only [List.length_append, List.length_singleton, List.length_nil] at *; omega) | (intro p hp; rcases List.mem_append.1 hp with hp | hp; exact hLo p hp; rw [List.mem_singleton.1 hp]; exact ⟨by dsimp only; omega, ⟨by dsimp only; omega, by dsimp only; omega⟩, by dsimp only; omega, by dsimp only; omega⟩) | (intro p hp; rcases List.mem_append.1 hp with hp | hp; exact List.mem_append_left _ (hLS p hp); rw [List.mem_singleton.1 hp]; exact List.mem_append_right _ (List.mem_singleton.2 rfl)) | fail) (.inr (next_fin (fun ts h => [0, slId h 0 1 1, tsId ts 5 2]) ?_))); (simp only [HSt.hp, NN.cs, slV_snoc, arO_snoc]); (conv => whnf); (refine hid_mk ⟨⟨?_, ?_, ?_, trivial⟩, ?_⟩); (all_goals first | (first | exact objR_dead (by simp) | exact objR_arO (by simp) rfl | (refine objR_cells (by simp) rfl ?_; (first | (refine rsl_lit ?_; (conv => whnf); with_reducible refine hid_mk ?_; (repeat (first | with_reducible exact RsL.nil | with_reducible exact RsL.wilds (by first | rfl | (simp; done) | (simp; omega)) | with_reducible refine RsL.cons (Rs.wild _) ?_ | with_reducible refine RsL.cons (Rs.int_eq (by first | rfl | omega | (simp; done) | (simp; omega))) ?_ | with_reducible refine RsL.cons (Rs.ptr _ _ _ rfl) ?_ | with_reducible refine RsL.cons (rs_slV rfl) ?_ | with_reducible refine RsL.cons (Rs.slice_eq rfl (by first | rfl | omega | (simp; done) | (simp; omega)) (by first | rfl | omega | (simp; done) | (simp; omega)) (by first | rfl | omega | (simp; done) | (simp; omega))) ?_ | with_reducible refine RsL.cons (Rs.nil _) ?_ | refine RsL.cons (Rs.eslice0 _ _ _ (.inl rfl)) ?_ | refine RsL.cons (rs_slV rfl) ?_ | refine RsL.cons (Rs.ptr _ _ _ rfl) ?_ | (refine RsL.cons (rs_bytes0 (by first | assumption | omega)) ?_) | (refine RsL.cons (rs_bytesN (by first | assumption | omega)) ?_) | refine RsL.cons (Rs.eq rfl (by first | exact idLt_mapI (by intro a; simp) | (simp; done) | exact idLt_fl (by intro a _; simp))) ?_ | refine RsL.cons (rs_fnL (by refine rsl_lit ?_; (conv => whnf); (refine hid_mk ?_); (repeat (first | exact RsL.nil | refine RsL.cons (Rs.ptr _ _ _ rfl) ?_ | refine RsL.cons (Rs.eq rfl (by simp)) ?_))) (by refine rsl_lit ?_; (conv => whnf); (refine hid_mk ?_); (repeat (first | exact RsL.nil | refine RsL.cons (Rs.ptr _ _ _ rfl) ?_ | refine RsL.cons (Rs.eq rfl (by simp)) ?_)))) ?_ | refine RsL.cons (rs_isl (by simp) (by first | omega | (simp; done) | (simp; omega))) ?_ | refine RsL.cons (rs_slice (by simp) rfl (by simp) (by first | rfl | omega | (simp; done) | (simp; omega)) (by simp)) ?_ | with_reducible refine RsL.append ?_ ?_ | exact rsl_flat (by intro a _; simp) (by first | rfl | (simp; done)))); done) | ((repeat (first | with_reducible exact RsL.nil | with_reducible exact RsL.wilds (by first | rfl | (simp; done) | (simp; omega)) | with_reducible refine RsL.cons (Rs.wild _) ?_ | with_reducible refine RsL.cons (Rs.int_eq (by first | rfl | omega | (simp; done) | (simp; omega))) ?_ | with_reducible refine RsL.cons (Rs.ptr _ _ _ rfl) ?_ | with_reducible refine RsL.cons (rs_slV rfl) ?_ | with_reducible refine RsL.cons (Rs.slice_eq rfl (by first | rfl | omega | (simp; done) | (simp; omega)) (by first | rfl | omega | (simp; done) | (simp; omega)) (by first | rfl | omega | (simp; done) | (simp; omega))) ?_ | with_reducible refine RsL.cons (Rs.nil _) ?_ | refine RsL.cons (Rs.eslice0 _ _ _ (.inl rfl)) ?_ | refine RsL.cons (rs_slV rfl) ?_ | refine RsL.cons (Rs.ptr _ _ _ rfl) ?_ | (refine RsL.cons (rs_bytes0 (by first | assumption | omega)) ?_) | (refine RsL.cons (rs_bytesN (by first | assumption | omega)) ?_) | refine RsL.cons (Rs.eq rfl (by first | exact idLt_mapI (by intro a; simp) | (simp; done) | exact idLt_fl (by intro a _; simp))) ?_ | refine RsL.cons (rs_fnL (by refine rsl_lit ?_; (conv => whnf); (refine hid_mk ?_); (repeat (first | exact RsL.nil | refine RsL.cons (Rs.ptr _ _ _ rfl) ?_ | refine RsL.cons (Rs.eq rfl (by simp)) ?_))) (by refine rsl_lit ?_; (conv => whnf); (refine hid_mk ?_); (repeat (first | exact RsL.nil | refine RsL.cons (Rs.ptr _ _ _ rfl) ?_ | refine RsL.cons (Rs.eq rfl (by simp)) ?_)))) ?_ | refine RsL.cons (rs_isl (by simp) (by first | omega | (simp; done) | (simp; omega))) ?_ | refine RsL.cons (rs_slice (by simp) rfl (by simp) (by first | rfl | omega | (simp; done) | (simp; omega)) (by simp)) ?_ | with_reducible refine RsL.append ?_ ?_ | exact rsl_flat (by intro a _; simp) (by first | rfl | (simp; done)))); done) | fail)) | exact objR_same (by simp) rfl (by first | rfl | (simp; done) | fail) (by first | (simp; done) | exact idLt_map.2 (fun _ _ => by simp)) | fail) | ((with_reducible refine rsl_force ?_); (conv => whnf); (with_reducible refine hid_mk ?_); (repeat (first | with_reducible exact RsL.nil | with_reducible exact RsL.wilds (by first | rfl | (simp; done) | (simp; omega)) | with_reducible refine RsL.cons (Rs.wild _) ?_ | with_reducible refine RsL.cons (Rs.int_eq (by first | rfl | omega | (simp; done) | (simp; omega))) ?_ | with_reducible refine RsL.cons (Rs.ptr _ _ _ rfl) ?_ | with_reducible refine RsL.cons (rs_slV rfl) ?_ | with_reducible refine RsL.cons (Rs.slice_eq rfl (by first | rfl | omega | (simp; done) | (simp; omega)) (by first | rfl | omega | (simp; done) | (simp; omega)) (by first | rfl | omega | (simp; done) | (simp; omega))) ?_ | with_reducible refine RsL.cons (Rs.nil _) ?_ | refine RsL.cons (Rs.eslice0 _ _ _ (.inl rfl)) ?_ | refine RsL.cons (rs_slV rfl) ?_ | refine RsL.cons (Rs.ptr _ _ _ rfl) ?_ | (refine RsL.cons (rs_bytes0 (by first | assumption | omega)) ?_) | (refine RsL.cons (rs_bytesN (by first | assumption | omega)) ?_) | refine RsL.cons (Rs.eq rfl (by first | exact idLt_mapI (by intro a; simp) | (simp; done) | exact idLt_fl (by intro a _; simp))) ?_ | refine RsL.cons (rs_fnL (by refine rsl_lit ?_; (conv => whnf); (refine hid_mk ?_); (repeat (first | exact RsL.nil | refine RsL.cons (Rs.ptr _ _ _ rfl) ?_ | refine RsL.cons (Rs.eq rfl (by simp)) ?_))) (by refine rsl_lit ?_; (conv => whnf); (refine hid_mk ?_); (repeat (first | exact RsL.nil | refine RsL.cons (Rs.ptr _ _ _ rfl) ?_ | refine RsL.cons (Rs.eq rfl (by simp)) ?_)))) ?_ | refine RsL.cons (rs_isl (by simp) (by first | omega | (simp; done) | (simp; omega))) ?_ | refine RsL.cons (rs_slice (by simp) rfl (by simp) (by first | rfl | omega | (simp; done) | (simp; omega)) (by simp)) ?_ | with_reducible refine RsL.append ?_ ?_ | exact rsl_flat (by intro a _; simp) (by first | rfl | (simp; done))))))); done)
    | (((refine joinN hj (⟨j, [], N, t, S⟩) (by constructor <;> (try dsimp only) <;> first | omega | assumption | (intro p hp; exact hLo p hp) | (intro p hp; exact hLS p hp) | fail) (.inr (next_fin (fun ts h => [0, 1, 2]) ?_))); (simp only [HSt.hp, NN.cs, slV_nil, arO_nil, slV_ne hS, arO_ne hS]); (conv => whnf); (refine hid_mk ⟨⟨?_, ?_, ?_, trivial⟩, ?_⟩); (all_goals first | (first | exact objR_dead (by simp) | exact objR_arO (by simp) rfl | (refine objR_cells (by simp) rfl ?_; (first | (refine rsl_lit ?_; (conv => whnf); with_reducible refine hid_mk ?_; (repeat (first | with_reducible exact RsL.nil | with_reducible exact RsL.wilds (by first | rfl | (simp; done) | (simp; omega)) | with_reducible refine RsL.cons (Rs.wild _) ?_ | with_reducible refine RsL.cons (Rs.int_eq (by first | rfl | omega | (simp; done) | (simp; omega))) ?_ | with_reducible refine RsL.cons (Rs.ptr _ _ _ rfl) ?_ | with_reducible refine RsL.cons (rs_slV rfl) ?_ | with_reducible refine RsL.cons (Rs.slice_eq rfl (by first | rfl | omega | (simp; done) | (simp; omega)) (by first | rfl | omega | (simp; done) | (simp; omega)) (by first | rfl | omega | (simp; done) | (simp; omega))) ?_ | with_reducible refine RsL.cons (Rs.nil _) ?_ | refine RsL.cons (Rs.eslice0 _ _ _ (.inl rfl)) ?_ | refine RsL.cons (rs_slV rfl) ?_ | refine RsL.cons (Rs.ptr _ _ _ rfl) ?_ | (refine RsL.cons (rs_bytes0 (by first | assumption | omega)) ?_) | (refine RsL.cons (rs_bytesN (by first | assumption | omega)) ?_) | refine RsL.cons (Rs.eq rfl (by first | exact idLt_mapI (by intro a; simp) | (simp; done) | exact idLt_fl (by intro a _; simp))) ?_ | refine RsL.cons (rs_fnL (by refine rsl_lit ?_; (conv => whnf); (refine hid_mk ?_); (repeat (first | exact RsL.nil | refine RsL.cons (Rs.ptr _ _ _ rfl) ?_ | refine RsL.cons (Rs.eq rfl (by simp)) ?_))) (by refine rsl_lit ?_; (conv => whnf); (refine hid_mk ?_); (repeat (first | exact RsL.nil | refine RsL.cons (Rs.ptr _ _ _ rfl) ?_ | refine RsL.cons (Rs.eq rfl (by simp)) ?_)))) ?_ | refine RsL.cons (rs_isl (by simp) (by first | omega | (simp; done) | (simp; omega))) ?_ | refine RsL.cons (rs_slice (by simp) rfl (by simp) (by first | rfl | omega | (simp; done) | (simp; omega)) (by simp)) ?_ | with_reducible refine RsL.append ?_ ?_ | exact rsl_flat (by intro a _; simp) (by first | rfl | (simp; done)))); done) | ((repeat (first | with_reducible exact RsL.nil | with_reducible exact RsL.wilds (by first | rfl | (simp; done) | (simp; omega)) | with_reducible refine RsL.cons (Rs.wild _) ?_ | with_reducible refine RsL.cons (Rs.int_eq (by first | rfl | omega | (simp; done) | (simp; omega))) ?_ | with_reducible refine RsL.cons (Rs.ptr _ _ _ rfl) ?_ | with_reducible refine RsL.cons (rs_slV rfl) ?_ | with_reducible refine RsL.cons (Rs.slice_eq rfl (by first | rfl | omega | (simp; done) | (simp; omega)) (by first | rfl | omega | (simp; done) | (simp; omega)) (by first | rfl | omega | (simp; done) | (simp; omega))) ?_ | with_reducible refine RsL.cons (Rs.nil _) ?_ | refine RsL.cons (Rs.eslice0 _ _ _ (.inl rfl)) ?_ | refine RsL.cons (rs_slV rfl) ?_ | refine RsL.cons (Rs.ptr _ _ _ rfl) ?_ | (refine RsL.cons (rs_bytes0 (by first | assumption | omega)) ?_) | (refine RsL.cons (rs_bytesN (by first | assumption | omega)) ?_) | refine RsL.cons (Rs.eq rfl (by first | exact idLt_mapI (by intro a; simp) | (simp; done) | exact idLt_fl (by intro a _; simp))) ?_ | refine RsL.cons (rs_fnL (by refine rsl_lit ?_; (conv => whnf); (refine hid_mk ?_); (repeat (first | exact RsL.nil | refine RsL.cons (Rs.ptr _ _ _ rfl) ?_ | refine RsL.cons (Rs.eq rfl (by simp)) ?_))) (by refine rsl_lit ?_; (conv => whnf); (refine hid_mk ?_); (repeat (first | exact RsL.nil | refine RsL.cons (Rs.ptr _ _ _ rfl) ?_ | refine RsL.cons (Rs.eq rfl (by simp)) ?_)))) ?_ | refine RsL.cons (rs_isl (by simp) (by first | omega | (simp; done) | (simp; omega))) ?_ | refine RsL.cons (rs_slice (by simp) rfl (by simp) (by first | rfl | omega | (simp; done) | (simp; omega)) (by simp)) ?_ | with_reducible refine RsL.append ?_ ?_ | exact rsl_flat (by intro a _; simp) (by first | rfl | (simp; done)))); done) | fail)) | exact objR_same (by simp) rfl (by first | rfl | (simp; done) | fail) (by first | (simp; done) | exact idLt_map.2 (fun _ _ => by simp)) | fail) | ((with_reducible refine rsl_force ?_); (conv => whnf); (with_reducible refine hid_mk ?_); (repeat (first | with_reducible exact RsL.nil | with_reducible exact RsL.wilds (by first | rfl | (simp; done) | (simp; omega)) | with_reducible refine RsL.cons (Rs.wild _) ?_ | with_reducible refine RsL.cons (Rs.int_eq (by first | rfl | omega | (simp; done) | (simp; omega))) ?_ | with_reducible refine RsL.cons (Rs.ptr _ _ _ rfl) ?_ | with_reducible refine RsL.cons (rs_slV rfl) ?_ | with_reducible refine RsL.cons (Rs.slice_eq rfl (by first | rfl | omega | (simp; done) | (simp; omega)) (by first | rfl | omega | (simp; done) | (simp; omega)) (by first | rfl | omega | (simp; done) | (simp; omega))) ?_ | with_reducible refine RsL.cons (Rs.nil _) ?_ | refine RsL.cons (Rs.eslice0 _ _ _ (.inl rfl)) ?_ | refine RsL.cons (rs_slV rfl) ?_ | refine RsL.cons (Rs.ptr _ _ _ rfl) ?_ | (refine RsL.cons (rs_bytes0 (by first | assumption | omega)) ?_) | (refine RsL.cons (rs_bytesN (by first | assumption | omega)) ?_) | refine RsL.cons (Rs.eq rfl (by first | exact idLt_mapI (by intro a; simp) | (simp; done) | exact idLt_fl (by intro a _; simp))) ?_ | refine RsL.cons (rs_fnL (by refine rsl_lit ?_; (conv => whnf); (refine hid_mk ?_); (repeat (first | exact RsL.nil | refine RsL.cons (Rs.ptr _ _ _ rfl) ?_ | refine RsL.cons (Rs.eq rfl (by simp)) ?_))) (by refine rsl_lit ?_; (conv => whnf); (refine hid_mk ?_); (repeat (first | exact RsL.nil | refine RsL.cons (Rs.ptr _ _ _ rfl) ?_ | refine RsL.cons (Rs.eq rfl (by simp)) ?_)))) ?_ | refine RsL.cons (rs_isl (by simp) (by first | omega | (simp; done) | (simp; omega))) ?_ | refine RsL.cons (rs_slice (by simp) rfl (by simp) (by first | rfl | omega | (simp; done) | (simp; omega)) (by simp)) ?_ | with_reducible refine RsL.append ?_ ?_ | exact rsl_flat (by intro a _; simp) (by first | rfl | (simp; done))))))); done)
    | (exact hn2 (k + 1, true) ⟨by dsimp only; omega, rfl⟩ (by dsimp only; omega) _ _ (.inl ⟨rfl, by (with_reducible refine wk_force ?_); (conv => whnf); (with_reducible refine hid_mk ?_); (repeat (first | with_reducible refine Wk.wild ?_ | refine Wk.cons (by first | with_reducible rfl | exact congrArg (AV.int _) (by first | rfl | omega | (simp; done) | (simp; omega)) | rfl | (simp; done) | fail) ?_)); with_reducible exact Wk.nil⟩))
    | fail


end Go.Proofs.Ytapgnmigpfcdfaa.C
