/- Straight-line programs: the document's After: the four cases. -/
import Derived.Test.YtginchgkbgcimaaDoorSlpP
namespace Go.Proofs.YtginchgkbgcimaaDoor.C
open Go Go.RowKit Go.Proofs.YtginchgkbgcimaaDoor.AL
set_option maxRecDepth 100000
set_option maxHeartbeats 40000000
set_option linter.unusedVariables false
set_option linter.unusedSimpArgs false

set_option maxRecDepth 1000000
theorem ref09_After.nn (p q : SProg) (hp : SMay p) (hq : SMay q) (hn0 : (q.outs.length : Int) = p.n) (hsum : p.ops.length + q.ops.length ≤ 256) (ho : q.ops ≠ []) (hu : q.outs ≠ []) : Pure prog 19 [p.v, q.v] (.tup [(aft p q).v, .int .i64 0]) := by
  have h1 := ref09_May.t p hp
  have h2 := ref09_May.t q hq
  obtain ⟨m1, m2, m3, m4, m5⟩ := hp
  obtain ⟨r1, r2, r3, r4, r5⟩ := hq
  refine pure_of_vc ref09_After.k (List.forall_mem_cons.2 ⟨sprog_cl p, List.forall_mem_cons.2 ⟨sprog_cl q, by simp⟩⟩) ?_
  have hfl : (q.ops.flatMap SOp.enc).length = q.ops.length * 4 := flat_len (s := 4) (by intro _; rfl) q.ops
  have hol : 0 < q.ops.length := List.length_pos_iff.2 ho
  have hul : 0 < q.outs.length := List.length_pos_iff.2 hu
  have hmz : mid p q 0 = q.ops := mid_zero p q
  have haz : atl p q 0 = q.outs := atl_zero p q
  conv => whnf
  repeat' ((first | (with_reducible refine hid_mk ?_) | (with_reducible refine bcase_df (by omega) ?_) | (with_reducible refine bcase_nf (by omega) ?_) | (with_reducible refine bcase_nbF (by omega) ?_) | (with_reducible refine both_mk rfl ?_) | (with_reducible refine alts_mk ?_ ?_) | (with_reducible refine Pure.use (h1) ?_) | (with_reducible refine Pure.use (h2) ?_) | (with_reducible refine vblk_same ?_) | (with_reducible refine wnum_i64 (by omega) ?_) | (with_reducible refine wcat_zero (by omega) ?_) | (with_reducible refine wroom_grow (by omega) ?_) | (with_reducible refine ask_mk (by first | with_reducible assumption | omega | (refine ⟨by first | omega | (simp; done) | (simp; omega), by first | rfl | (simp [AV.isCell]; done) | (simp; omega)⟩)) ?_) | (with_reducible refine And.intro (by first | with_reducible assumption | (simp; done)) ?_)) <;> (conv => whnf))
  case refine_1.refine_1 =>
    clear h1 h2
    refine ref09_After.lp p q hn0 hsum m1 m2 m3 m4 m5 r1 r2 r3 [0, 1, 2, 7, 6, 4] (by decide) ?_ ?_
    · simp only [raH, hmz, haz, List.flatMap_nil, List.length_nil, List.map_nil]
      refine ⟨?_, ?_, ?_, ?_, ?_, ?_, trivial⟩
      all_goals (first | exact objR_same (by simp) rfl rfl (cells_cl _) | (refine objR_cells (by simp) rfl ?_; (first | (refine rsl_lit ?_; (conv => whnf); with_reducible refine hid_mk ?_; (repeat (first | with_reducible exact RsL.nil | with_reducible refine RsL.cons (Rs.int_eq (by first | rfl)) ?_ | with_reducible refine RsL.cons (Rs.slice_eq rfl (by first | rfl) (by first | rfl | omega) (by first | rfl | omega)) ?_ | refine RsL.cons (Rs.eq rfl (by first | (simp; done))) ?_)); done) | ((repeat (first | exact rsl_flat (by intro a _; simp) (by first | rfl))); done) | fail)) | exact objR_same (by simp) rfl (by first | rfl | fail) (by first | (simp; done)) | fail)
    · simp only [hmz, haz, List.flatMap_nil, List.length_nil, List.map_nil]
      (with_reducible refine rsl_force ?_); (conv => whnf); (with_reducible refine hid_mk ?_); (repeat (first | with_reducible exact RsL.nil | with_reducible refine RsL.cons (Rs.wild _) ?_ | with_reducible refine RsL.cons (Rs.int_eq (by first | rfl | omega)) ?_ | with_reducible refine RsL.cons (Rs.ptr _ _ _ rfl) ?_ | with_reducible refine RsL.cons (Rs.slice_eq rfl (by first | rfl) (by first | omega) (by first | omega)) ?_))
  case refine_1.refine_2 =>
    clear h1 h2
    refine ref09_After.lp p q hn0 hsum m1 m2 m3 m4 m5 r1 r2 r3 [0, 1, 2, 6, 7, 4] (by decide) ?_ ?_
    · simp only [raH, hmz, haz, List.flatMap_nil, List.length_nil, List.map_nil]
      refine ⟨?_, ?_, ?_, ?_, ?_, ?_, trivial⟩
      all_goals (first | exact objR_same (by simp) rfl rfl (cells_cl _) | (refine objR_cells (by simp) rfl ?_; (first | (refine rsl_lit ?_; (conv => whnf); with_reducible refine hid_mk ?_; (repeat (first | with_reducible exact RsL.nil | with_reducible refine RsL.cons (Rs.int_eq (by first | rfl)) ?_ | with_reducible refine RsL.cons (Rs.slice_eq rfl (by first | rfl) (by first | rfl | omega) (by first | rfl | omega)) ?_ | refine RsL.cons (Rs.eq rfl (by first | (simp; done))) ?_)); done) | ((repeat (first | exact rsl_flat (by intro a _; simp) (by first | rfl))); done) | fail)) | exact objR_same (by simp) rfl (by first | rfl | fail) (by first | (simp; done)) | fail)
    · simp only [hmz, haz, List.flatMap_nil, List.length_nil, List.map_nil]
      (with_reducible refine rsl_force ?_); (conv => whnf); (with_reducible refine hid_mk ?_); (repeat (first | with_reducible exact RsL.nil | with_reducible refine RsL.cons (Rs.wild _) ?_ | with_reducible refine RsL.cons (Rs.int_eq (by first | rfl | omega)) ?_ | with_reducible refine RsL.cons (Rs.ptr _ _ _ rfl) ?_ | with_reducible refine RsL.cons (Rs.slice_eq rfl (by first | rfl) (by first | omega) (by first | omega)) ?_))
  case refine_2 =>
    clear h1 h2
    refine ref09_After.lp p q hn0 hsum m1 m2 m3 m4 m5 r1 r2 r3 [0, 1, 2, 5, 7, 4] (by decide) ?_ ?_
    · simp only [raH, hmz, haz, List.flatMap_nil, List.length_nil, List.map_nil]
      refine ⟨?_, ?_, ?_, ?_, ?_, ?_, trivial⟩
      all_goals (first | exact objR_same (by simp) rfl rfl (cells_cl _) | (refine objR_cells (by simp) rfl ?_; (first | (refine rsl_lit ?_; (conv => whnf); with_reducible refine hid_mk ?_; (repeat (first | with_reducible exact RsL.nil | with_reducible refine RsL.cons (Rs.int_eq (by first | rfl)) ?_ | with_reducible refine RsL.cons (Rs.slice_eq rfl (by first | rfl) (by first | rfl | omega) (by first | rfl | omega)) ?_ | refine RsL.cons (Rs.eq rfl (by first | (simp; done))) ?_)); done) | ((repeat (first | exact rsl_flat (by intro a _; simp) (by first | rfl))); done) | fail)) | exact objR_same (by simp) rfl (by first | rfl | fail) (by first | (simp; done)) | fail)
    · simp only [hmz, haz, List.flatMap_nil, List.length_nil, List.map_nil]
      (with_reducible refine rsl_force ?_); (conv => whnf); (with_reducible refine hid_mk ?_); (repeat (first | with_reducible exact RsL.nil | with_reducible refine RsL.cons (Rs.wild _) ?_ | with_reducible refine RsL.cons (Rs.int_eq (by first | rfl | omega)) ?_ | with_reducible refine RsL.cons (Rs.ptr _ _ _ rfl) ?_ | with_reducible refine RsL.cons (Rs.slice_eq rfl (by first | rfl) (by first | omega) (by first | omega)) ?_))
theorem ref09_After.ne (p q : SProg) (hp : SMay p) (hq : SMay q) (hn0 : (q.outs.length : Int) = p.n) (hsum : p.ops.length + q.ops.length ≤ 256) (ho : q.ops ≠ []) (hu : q.outs = []) : Pure prog 19 [p.v, q.v] (.tup [(aft p q).v, .int .i64 0]) := by
  have h1 := ref09_May.t p hp
  have h2 := ref09_May.t q hq
  obtain ⟨m1, m2, m3, m4, m5⟩ := hp
  obtain ⟨r1, r2, r3, r4, r5⟩ := hq
  refine pure_of_vc ref09_After.k (List.forall_mem_cons.2 ⟨sprog_cl p, List.forall_mem_cons.2 ⟨sprog_cl q, by simp⟩⟩) ?_
  have hfl : (q.ops.flatMap SOp.enc).length = q.ops.length * 4 := flat_len (s := 4) (by intro _; rfl) q.ops
  have hol : 0 < q.ops.length := List.length_pos_iff.2 ho
  have hul : q.outs.length = 0 := by rw [hu]; rfl
  have hmz : mid p q 0 = q.ops := mid_zero p q
  have haz : atl p q 0 = [] := (atl_zero p q).trans hu
  conv => whnf
  repeat' ((first | (with_reducible refine hid_mk ?_) | (with_reducible refine bcase_df (by omega) ?_) | (with_reducible refine bcase_nf (by omega) ?_) | (with_reducible refine bcase_nbT (by omega) ?_) | (with_reducible refine bcase_nbF (by omega) ?_) | (with_reducible refine both_mk rfl ?_) | (with_reducible refine alts_mk ?_ ?_) | (with_reducible refine Pure.use (h1) ?_) | (with_reducible refine Pure.use (h2) ?_) | (with_reducible refine vblk_same ?_) | (with_reducible refine wnum_i64 (by omega) ?_) | (with_reducible refine wcat_zero (by omega) ?_) | (with_reducible refine wroom_grow (by omega) ?_) | (with_reducible refine ask_mk (by first | with_reducible assumption | omega | (refine ⟨by first | omega | (simp; done) | (simp; omega), by first | rfl | (simp [AV.isCell]; done) | (simp; omega)⟩)) ?_) | (with_reducible refine And.intro (by first | with_reducible assumption | (simp; done)) ?_)) <;> (conv => whnf))
  case refine_1.refine_1 =>
    clear h1 h2
    refine ref09_After.lp p q hn0 hsum m1 m2 m3 m4 m5 r1 r2 r3 [0, 1, 2, 6, 5, 3] (by decide) ?_ ?_
    · simp only [raH, hmz, haz, List.flatMap_nil, List.length_nil, List.map_nil]
      refine ⟨?_, ?_, ?_, ?_, ?_, ?_, trivial⟩
      all_goals (first | exact objR_vac rfl | exact objR_same (by simp) rfl rfl (cells_cl _) | (refine objR_cells (by simp) rfl ?_; (first | (refine rsl_lit ?_; (conv => whnf); with_reducible refine hid_mk ?_; (repeat (first | with_reducible exact RsL.nil | with_reducible refine RsL.cons (Rs.int_eq (by first | rfl)) ?_ | with_reducible refine RsL.cons (Rs.slice_eq rfl (by first | rfl) (by first | rfl | omega) (by first | rfl | omega)) ?_ | refine RsL.cons (Rs.eq rfl (by first | (simp; done))) ?_)); done) | ((repeat (first | exact rsl_flat (by intro a _; simp) (by first | rfl))); done) | fail)) | fail)
    · simp only [hmz, haz, List.flatMap_nil, List.length_nil, List.map_nil]
      (with_reducible refine rsl_force ?_); (conv => whnf); (with_reducible refine hid_mk ?_); (repeat (first | with_reducible exact RsL.nil | with_reducible refine RsL.cons (Rs.wild _) ?_ | with_reducible refine RsL.cons (Rs.int_eq (by first | rfl | omega)) ?_ | with_reducible refine RsL.cons (Rs.ptr _ _ _ rfl) ?_ | with_reducible refine RsL.cons (Rs.slice_eq rfl (by first | rfl) (by first | rfl) (by first | rfl)) ?_))
  case refine_1.refine_2 =>
    clear h1 h2
    refine ref09_After.lp p q hn0 hsum m1 m2 m3 m4 m5 r1 r2 r3 [0, 1, 2, 5, 6, 3] (by decide) ?_ ?_
    · simp only [raH, hmz, haz, List.flatMap_nil, List.length_nil, List.map_nil]
      refine ⟨?_, ?_, ?_, ?_, ?_, ?_, trivial⟩
      all_goals (first | exact objR_vac rfl | exact objR_same (by simp) rfl rfl (cells_cl _) | (refine objR_cells (by simp) rfl ?_; (first | (refine rsl_lit ?_; (conv => whnf); with_reducible refine hid_mk ?_; (repeat (first | with_reducible exact RsL.nil | with_reducible refine RsL.cons (Rs.int_eq (by first | rfl)) ?_ | with_reducible refine RsL.cons (Rs.slice_eq rfl (by first | rfl) (by first | rfl | omega) (by first | rfl | omega)) ?_ | refine RsL.cons (Rs.eq rfl (by first | (simp; done))) ?_)); done) | ((repeat (first | exact rsl_flat (by intro a _; simp) (by first | rfl))); done) | fail)) | fail)
    · simp only [hmz, haz, List.flatMap_nil, List.length_nil, List.map_nil]
      (with_reducible refine rsl_force ?_); (conv => whnf); (with_reducible refine hid_mk ?_); (repeat (first | with_reducible exact RsL.nil | with_reducible refine RsL.cons (Rs.wild _) ?_ | with_reducible refine RsL.cons (Rs.int_eq (by first | rfl | omega)) ?_ | with_reducible refine RsL.cons (Rs.ptr _ _ _ rfl) ?_ | with_reducible refine RsL.cons (Rs.slice_eq rfl (by first | rfl) (by first | rfl) (by first | rfl)) ?_))
  case refine_2 =>
    clear h1 h2
    refine ref09_After.lp p q hn0 hsum m1 m2 m3 m4 m5 r1 r2 r3 [0, 1, 2, 4, 6, 3] (by decide) ?_ ?_
    · simp only [raH, hmz, haz, List.flatMap_nil, List.length_nil, List.map_nil]
      refine ⟨?_, ?_, ?_, ?_, ?_, ?_, trivial⟩
      all_goals (first | exact objR_vac rfl | exact objR_same (by simp) rfl rfl (cells_cl _) | (refine objR_cells (by simp) rfl ?_; (first | (refine rsl_lit ?_; (conv => whnf); with_reducible refine hid_mk ?_; (repeat (first | with_reducible exact RsL.nil | with_reducible refine RsL.cons (Rs.int_eq (by first | rfl)) ?_ | with_reducible refine RsL.cons (Rs.slice_eq rfl (by first | rfl) (by first | rfl | omega) (by first | rfl | omega)) ?_ | refine RsL.cons (Rs.eq rfl (by first | (simp; done))) ?_)); done) | ((repeat (first | exact rsl_flat (by intro a _; simp) (by first | rfl))); done) | fail)) | fail)
    · simp only [hmz, haz, List.flatMap_nil, List.length_nil, List.map_nil]
      (with_reducible refine rsl_force ?_); (conv => whnf); (with_reducible refine hid_mk ?_); (repeat (first | with_reducible exact RsL.nil | with_reducible refine RsL.cons (Rs.wild _) ?_ | with_reducible refine RsL.cons (Rs.int_eq (by first | rfl | omega)) ?_ | with_reducible refine RsL.cons (Rs.ptr _ _ _ rfl) ?_ | with_reducible refine RsL.cons (Rs.slice_eq rfl (by first | rfl) (by first | rfl) (by first | rfl)) ?_))
theorem ref09_After.en (p q : SProg) (hp : SMay p) (hq : SMay q) (hn0 : (q.outs.length : Int) = p.n) (hsum : p.ops.length + q.ops.length ≤ 256) (ho : q.ops = []) (hu : q.outs ≠ []) : Pure prog 19 [p.v, q.v] (.tup [(aft p q).v, .int .i64 0]) := by
  have h1 := ref09_May.t p hp
  have h2 := ref09_May.t q hq
  obtain ⟨m1, m2, m3, m4, m5⟩ := hp
  obtain ⟨r1, r2, r3, r4, r5⟩ := hq
  refine pure_of_vc ref09_After.k (List.forall_mem_cons.2 ⟨sprog_cl p, List.forall_mem_cons.2 ⟨sprog_cl q, by simp⟩⟩) ?_
  have hfl : (q.ops.flatMap SOp.enc).length = q.ops.length * 4 := flat_len (s := 4) (by intro _; rfl) q.ops
  have hol : q.ops.length = 0 := by rw [ho]; rfl
  have hul : 0 < q.outs.length := List.length_pos_iff.2 hu
  have hmz : mid p q 0 = [] := (mid_zero p q).trans ho
  have haz : atl p q 0 = q.outs := atl_zero p q
  conv => whnf
  repeat' ((first | (with_reducible refine hid_mk ?_) | (with_reducible refine bcase_df (by omega) ?_) | (with_reducible refine bcase_nf (by omega) ?_) | (with_reducible refine bcase_nbT (by omega) ?_) | (with_reducible refine bcase_nbF (by omega) ?_) | (with_reducible refine both_mk rfl ?_) | (with_reducible refine alts_mk ?_ ?_) | (with_reducible refine Pure.use (h1) ?_) | (with_reducible refine Pure.use (h2) ?_) | (with_reducible refine vblk_same ?_) | (with_reducible refine wnum_i64 (by omega) ?_) | (with_reducible refine wcat_zero (by omega) ?_) | (with_reducible refine wroom_grow (by omega) ?_) | (with_reducible refine ask_mk (by first | with_reducible assumption | omega | (refine ⟨by first | omega | (simp; done) | (simp; omega), by first | rfl | (simp [AV.isCell]; done) | (simp; omega)⟩)) ?_) | (with_reducible refine And.intro (by first | with_reducible assumption | (simp; done)) ?_)) <;> (conv => whnf))
  case refine_1.refine_1 =>
    clear h1 h2
    refine ref09_After.lp p q hn0 hsum m1 m2 m3 m4 m5 r1 r2 r3 [0, 1, 2, 6, 5, 4] (by decide) ?_ ?_
    · simp only [raH, hmz, haz, List.flatMap_nil, List.length_nil, List.map_nil]
      refine ⟨?_, ?_, ?_, ?_, ?_, ?_, trivial⟩
      all_goals (first | exact objR_vac rfl | exact objR_same (by simp) rfl rfl (cells_cl _) | (refine objR_cells (by simp) rfl ?_; (first | (refine rsl_lit ?_; (conv => whnf); with_reducible refine hid_mk ?_; (repeat (first | with_reducible exact RsL.nil | with_reducible refine RsL.cons (Rs.int_eq (by first | rfl)) ?_ | with_reducible refine RsL.cons (Rs.slice_eq rfl (by first | rfl) (by first | rfl) (by first | rfl)) ?_ | refine RsL.cons (Rs.eq rfl (by first | (simp; done))) ?_)); done) | fail)) | exact objR_same (by simp) rfl (by first | rfl | fail) (by first | (simp; done)) | fail)
    · simp only [hmz, haz, List.flatMap_nil, List.length_nil, List.map_nil]
      (with_reducible refine rsl_force ?_); (conv => whnf); (with_reducible refine hid_mk ?_); (repeat (first | with_reducible exact RsL.nil | with_reducible refine RsL.cons (Rs.wild _) ?_ | with_reducible refine RsL.cons (Rs.int_eq (by first | rfl | omega)) ?_ | with_reducible refine RsL.cons (Rs.ptr _ _ _ rfl) ?_ | with_reducible refine RsL.cons (Rs.slice_eq rfl (by first | rfl) (by first | omega) (by first | omega)) ?_))
  case refine_1.refine_2 =>
    clear h1 h2
    refine ref09_After.lp p q hn0 hsum m1 m2 m3 m4 m5 r1 r2 r3 [0, 1, 2, 6, 5, 4] (by decide) ?_ ?_
    · simp only [raH, hmz, haz, List.flatMap_nil, List.length_nil, List.map_nil]
      refine ⟨?_, ?_, ?_, ?_, ?_, ?_, trivial⟩
      all_goals (first | exact objR_vac rfl | exact objR_same (by simp) rfl rfl (cells_cl _) | (refine objR_cells (by simp) rfl ?_; (first | (refine rsl_lit ?_; (conv => whnf); with_reducible refine hid_mk ?_; (repeat (first | with_reducible exact RsL.nil | with_reducible refine RsL.cons (Rs.int_eq (by first | rfl)) ?_ | with_reducible refine RsL.cons (Rs.slice_eq rfl (by first | rfl) (by first | rfl) (by first | rfl)) ?_ | refine RsL.cons (Rs.eq rfl (by first | (simp; done))) ?_)); done) | fail)) | exact objR_same (by simp) rfl (by first | rfl | fail) (by first | (simp; done)) | fail)
    · simp only [hmz, haz, List.flatMap_nil, List.length_nil, List.map_nil]
      (with_reducible refine rsl_force ?_); (conv => whnf); (with_reducible refine hid_mk ?_); (repeat (first | with_reducible exact RsL.nil | with_reducible refine RsL.cons (Rs.wild _) ?_ | with_reducible refine RsL.cons (Rs.int_eq (by first | rfl | omega)) ?_ | with_reducible refine RsL.cons (Rs.ptr _ _ _ rfl) ?_ | with_reducible refine RsL.cons (Rs.slice_eq rfl (by first | rfl) (by first | omega) (by first | omega)) ?_))
  case refine_2 =>
    clear h1 h2
    refine ref09_After.lp p q hn0 hsum m1 m2 m3 m4 m5 r1 r2 r3 [0, 1, 2, 5, 6, 4] (by decide) ?_ ?_
    · simp only [raH, hmz, haz, List.flatMap_nil, List.length_nil, List.map_nil]
      refine ⟨?_, ?_, ?_, ?_, ?_, ?_, trivial⟩
      all_goals (first | exact objR_vac rfl | exact objR_same (by simp) rfl rfl (cells_cl _) | (refine objR_cells (by simp) rfl ?_; (first | (refine rsl_lit ?_; (conv => whnf); with_reducible refine hid_mk ?_; (repeat (first | with_reducible exact RsL.nil | with_reducible refine RsL.cons (Rs.int_eq (by first | rfl)) ?_ | with_reducible refine RsL.cons (Rs.slice_eq rfl (by first | rfl) (by first | rfl) (by first | rfl)) ?_ | refine RsL.cons (Rs.eq rfl (by first | (simp; done))) ?_)); done) | fail)) | exact objR_same (by simp) rfl (by first | rfl | fail) (by first | (simp; done)) | fail)
    · simp only [hmz, haz, List.flatMap_nil, List.length_nil, List.map_nil]
      (with_reducible refine rsl_force ?_); (conv => whnf); (with_reducible refine hid_mk ?_); (repeat (first | with_reducible exact RsL.nil | with_reducible refine RsL.cons (Rs.wild _) ?_ | with_reducible refine RsL.cons (Rs.int_eq (by first | rfl | omega)) ?_ | with_reducible refine RsL.cons (Rs.ptr _ _ _ rfl) ?_ | with_reducible refine RsL.cons (Rs.slice_eq rfl (by first | rfl) (by first | omega) (by first | omega)) ?_))
theorem ref09_After.ee (p q : SProg) (hp : SMay p) (hq : SMay q) (hn0 : (q.outs.length : Int) = p.n) (hsum : p.ops.length + q.ops.length ≤ 256) (ho : q.ops = []) (hu : q.outs = []) : Pure prog 19 [p.v, q.v] (.tup [(aft p q).v, .int .i64 0]) := by
  have h1 := ref09_May.t p hp
  have h2 := ref09_May.t q hq
  obtain ⟨m1, m2, m3, m4, m5⟩ := hp
  obtain ⟨r1, r2, r3, r4, r5⟩ := hq
  refine pure_of_vc ref09_After.k (List.forall_mem_cons.2 ⟨sprog_cl p, List.forall_mem_cons.2 ⟨sprog_cl q, by simp⟩⟩) ?_
  have hfl : (q.ops.flatMap SOp.enc).length = q.ops.length * 4 := flat_len (s := 4) (by intro _; rfl) q.ops
  have hol : q.ops.length = 0 := by rw [ho]; rfl
  have hul : q.outs.length = 0 := by rw [hu]; rfl
  have hmz : mid p q 0 = [] := (mid_zero p q).trans ho
  have haz : atl p q 0 = [] := (atl_zero p q).trans hu
  conv => whnf
  repeat' ((first | (with_reducible refine hid_mk ?_) | (with_reducible refine bcase_df (by omega) ?_) | (with_reducible refine bcase_nf (by omega) ?_) | (with_reducible refine bcase_nbT (by omega) ?_) | (with_reducible refine both_mk rfl ?_) | (with_reducible refine alts_mk ?_ ?_) | (with_reducible refine Pure.use (h1) ?_) | (with_reducible refine Pure.use (h2) ?_) | (with_reducible refine vblk_same ?_) | (with_reducible refine wnum_i64 (by omega) ?_) | (with_reducible refine And.intro (by first | with_reducible assumption | (simp; done)) ?_)) <;> (conv => whnf))
  case refine_1.refine_1 =>
    clear h1 h2
    refine ref09_After.lp p q hn0 hsum m1 m2 m3 m4 m5 r1 r2 r3 [0, 1, 2, 5, 4, 3] (by decide) ?_ ?_
    · simp only [raH, hmz, haz, List.flatMap_nil, List.length_nil, List.map_nil]
      refine ⟨?_, ?_, ?_, ?_, ?_, ?_, trivial⟩
      all_goals (first | exact objR_vac rfl | exact objR_same (by simp) rfl rfl (cells_cl _) | (refine objR_cells (by simp) rfl ?_; (first | (refine rsl_lit ?_; (conv => whnf); with_reducible refine hid_mk ?_; (repeat (first | with_reducible exact RsL.nil | with_reducible refine RsL.cons (Rs.int_eq (by first | rfl)) ?_ | with_reducible refine RsL.cons (Rs.slice_eq rfl (by first | rfl) (by first | rfl) (by first | rfl)) ?_ | refine RsL.cons (Rs.eq rfl (by first | (simp; done))) ?_)); done) | fail)) | fail)
    · simp only [hmz, haz, List.flatMap_nil, List.length_nil, List.map_nil]
      (with_reducible refine rsl_force ?_); (conv => whnf); (with_reducible refine hid_mk ?_); (repeat (first | with_reducible exact RsL.nil | with_reducible refine RsL.cons (Rs.wild _) ?_ | with_reducible refine RsL.cons (Rs.int_eq (by first | rfl | omega)) ?_ | with_reducible refine RsL.cons (Rs.ptr _ _ _ rfl) ?_ | with_reducible refine RsL.cons (Rs.slice_eq rfl (by first | rfl) (by first | rfl) (by first | rfl)) ?_))
  case refine_1.refine_2 =>
    clear h1 h2
    refine ref09_After.lp p q hn0 hsum m1 m2 m3 m4 m5 r1 r2 r3 [0, 1, 2, 5, 4, 3] (by decide) ?_ ?_
    · simp only [raH, hmz, haz, List.flatMap_nil, List.length_nil, List.map_nil]
      refine ⟨?_, ?_, ?_, ?_, ?_, ?_, trivial⟩
      all_goals (first | exact objR_vac rfl | exact objR_same (by simp) rfl rfl (cells_cl _) | (refine objR_cells (by simp) rfl ?_; (first | (refine rsl_lit ?_; (conv => whnf); with_reducible refine hid_mk ?_; (repeat (first | with_reducible exact RsL.nil | with_reducible refine RsL.cons (Rs.int_eq (by first | rfl)) ?_ | with_reducible refine RsL.cons (Rs.slice_eq rfl (by first | rfl) (by first | rfl) (by first | rfl)) ?_ | refine RsL.cons (Rs.eq rfl (by first | (simp; done))) ?_)); done) | fail)) | fail)
    · simp only [hmz, haz, List.flatMap_nil, List.length_nil, List.map_nil]
      (with_reducible refine rsl_force ?_); (conv => whnf); (with_reducible refine hid_mk ?_); (repeat (first | with_reducible exact RsL.nil | with_reducible refine RsL.cons (Rs.wild _) ?_ | with_reducible refine RsL.cons (Rs.int_eq (by first | rfl | omega)) ?_ | with_reducible refine RsL.cons (Rs.ptr _ _ _ rfl) ?_ | with_reducible refine RsL.cons (Rs.slice_eq rfl (by first | rfl) (by first | rfl) (by first | rfl)) ?_))
  case refine_2 =>
    clear h1 h2
    refine ref09_After.lp p q hn0 hsum m1 m2 m3 m4 m5 r1 r2 r3 [0, 1, 2, 4, 5, 3] (by decide) ?_ ?_
    · simp only [raH, hmz, haz, List.flatMap_nil, List.length_nil, List.map_nil]
      refine ⟨?_, ?_, ?_, ?_, ?_, ?_, trivial⟩
      all_goals (first | exact objR_vac rfl | exact objR_same (by simp) rfl rfl (cells_cl _) | (refine objR_cells (by simp) rfl ?_; (first | (refine rsl_lit ?_; (conv => whnf); with_reducible refine hid_mk ?_; (repeat (first | with_reducible exact RsL.nil | with_reducible refine RsL.cons (Rs.int_eq (by first | rfl)) ?_ | with_reducible refine RsL.cons (Rs.slice_eq rfl (by first | rfl) (by first | rfl) (by first | rfl)) ?_ | refine RsL.cons (Rs.eq rfl (by first | (simp; done))) ?_)); done) | fail)) | fail)
    · simp only [hmz, haz, List.flatMap_nil, List.length_nil, List.map_nil]
      (with_reducible refine rsl_force ?_); (conv => whnf); (with_reducible refine hid_mk ?_); (repeat (first | with_reducible exact RsL.nil | with_reducible refine RsL.cons (Rs.wild _) ?_ | with_reducible refine RsL.cons (Rs.int_eq (by first | rfl | omega)) ?_ | with_reducible refine RsL.cons (Rs.ptr _ _ _ rfl) ?_ | with_reducible refine RsL.cons (Rs.slice_eq rfl (by first | rfl) (by first | rfl) (by first | rfl)) ?_))
theorem ref09_After.t (p q : SProg) (hp : SMay p) (hq : SMay q) (hn0 : (q.outs.length : Int) = p.n) (hsum : p.ops.length + q.ops.length ≤ 256) : Pure prog 19 [p.v, q.v] (.tup [(aft p q).v, .int .i64 0]) := by
  by_cases ho : q.ops = [] <;> by_cases hu : q.outs = []
  · exact ref09_After.ee p q hp hq hn0 hsum ho hu
  · exact ref09_After.en p q hp hq hn0 hsum ho hu
  · exact ref09_After.ne p q hp hq hn0 hsum ho hu
  · exact ref09_After.nn p q hp hq hn0 hsum ho hu

end Go.Proofs.YtginchgkbgcimaaDoor.C
