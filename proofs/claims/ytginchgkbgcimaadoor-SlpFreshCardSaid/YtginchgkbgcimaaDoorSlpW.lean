/- Straight-line programs: the law SlpFresh, joined. -/
import Derived.Test.YtginchgkbgcimaaDoorSlpU
namespace Go.Proofs.YtginchgkbgcimaaDoor.C
open Go Go.RowKit Go.Proofs.YtginchgkbgcimaaDoor.AL
set_option maxRecDepth 100000
set_option maxHeartbeats 40000000
set_option linter.unusedVariables false
set_option linter.unusedSimpArgs false

theorem ownL_fl {n : Nat} {L : List SOp} : OwnL n (L.flatMap SOp.enc) (L.flatMap SOp.enc) := by
  refine ⟨rfl, fun j x y hx hy => ?_⟩
  rw [hx] at hy; cases hy
  obtain ⟨o, _, hx⟩ := List.mem_flatMap.1 (List.mem_of_getElem? hx)
  simp only [List.mem_cons, List.not_mem_nil, or_false] at hx
  rcases hx with rfl | rfl | rfl | rfl <;> exact .int _ _
set_option maxRecDepth 1000000
theorem law09_SlpFresh.s (p q : SProg) (hp : p.len) (hq : q.len) (hp1 : p.ops.length ≤ 4398046510976) (hq1 : q.ops.length ≤ 4398046510976) (hmp : SMay p) (hmq : SMay q) (hn : (q.outs.length : Int) = p.n) (hs : p.ops.length + q.ops.length ≤ 256) : Pure prog 8 [p.v, q.v] (.bool true) := by
  have hcp := ref09_Copy.a p hp hp1
  have hcq := ref09_Copy.a q hq hq1
  have hO := slp_After.o p q hmp hmq hn hs
  have hS := slp_After.s p q hmp hmq hn hs
  have hz := ref09_After.t p q hmp hmq hn hs
  have hr1 : (aft p q).ops.length ≤ 256 := by simp [aft]; omega
  have hr2 : (aft p q).outs.length ≤ 64 := by have := hmp.m; simp [aft]; omega
  generalize aft p q = r at hO hS hz hr1 hr2
  have hfl : (r.ops.flatMap SOp.enc).length = r.ops.length * 4 := flat_len (s := 4) (by intro _; rfl) r.ops
  refine pure_of_vc law09_SlpFresh.k (List.forall_mem_cons.2 ⟨sprog_cl p, List.forall_mem_cons.2 ⟨sprog_cl q, by simp⟩⟩) ?_
  conv => whnf
  repeat' ((first | (with_reducible refine hid_mk ?_) | (with_reducible refine both_mk rfl ?_) | (with_reducible refine alts_mk ?_ ?_) | (with_reducible refine Pure.use (hcp) ?_) | (with_reducible refine Pure.use (hcq) ?_) | ((with_reducible refine acalls_guard hO ?_); (refine ACalls.useB hO (.tup [.agg [.int .i64 r.n, .slice 4 0 r.ops.length r.ops.length, .slice 5 0 r.outs.length r.outs.length], .int .i64 0]) r.mem [] (.cons (.eq rfl (sprog_cl p)) (.cons (.eq rfl (sprog_cl q)) .nil)) (.tupL (.cons (.aggL (.cons (.int _ _) (.cons (.slice 0 0 _ _) (.cons (.slice 1 0 _ _) .nil)))) (.cons (.int _ _) .nil))) ⟨⟨rfl, ownL_fl⟩, ⟨rfl, OwnL.map (fun _ => .int _ _)⟩, trivial⟩ ?_)) | (with_reducible refine Pure.use (hS) ?_) | (with_reducible refine vblk_same ?_)) <;> (conv => whnf))
  all_goals
    clear hcp hcq hO hS
    first
    | (refine SlpFresh.lp p q r hp hq hr1 hr2 hz [0, 1, 2, 3, 4, 5, 6, 7] (by decide) ?_ ?_
       · refine ⟨?_, ?_, ?_, ?_, ?_, ?_, ?_, ?_, trivial⟩
         all_goals first | exact objR_cells (by simp) rfl (RsL.wilds (by first | exact hfl | (simp; done) | fail)) | (first | exact objR_same (by simp) rfl rfl (cells_cl _) | (refine objR_cells (by simp) rfl ?_; (first | (refine rsl_lit ?_; (conv => whnf); with_reducible refine hid_mk ?_; (repeat (first | with_reducible exact RsL.nil | with_reducible refine RsL.cons (Rs.int_eq (by first | rfl)) ?_ | with_reducible refine RsL.cons (Rs.slice_eq rfl (by first | rfl) (by first | rfl) (by first | rfl)) ?_)); done) | fail)) | fail)
       · (with_reducible refine rsl_force ?_); (conv => whnf); (with_reducible refine hid_mk ?_); (repeat (first | with_reducible exact RsL.nil | with_reducible refine RsL.cons (Rs.wild _) ?_ | with_reducible refine RsL.cons (Rs.int_eq (by first | rfl | omega)) ?_ | with_reducible refine RsL.cons (Rs.ptr _ _ _ rfl) ?_ | refine RsL.cons (Rs.eq rfl (by first | (simp; done))) ?_))
       done)
    | (refine SlpFresh.lp p q r hp hq hr1 hr2 hz [0, 1, 3, 2, 4, 5, 6, 7] (by decide) ?_ ?_
       · refine ⟨?_, ?_, ?_, ?_, ?_, ?_, ?_, ?_, trivial⟩
         all_goals first | exact objR_cells (by simp) rfl (RsL.wilds (by first | exact hfl | (simp; done) | fail)) | (first | exact objR_same (by simp) rfl rfl (cells_cl _) | (refine objR_cells (by simp) rfl ?_; (first | (refine rsl_lit ?_; (conv => whnf); with_reducible refine hid_mk ?_; (repeat (first | with_reducible exact RsL.nil | with_reducible refine RsL.cons (Rs.int_eq (by first | rfl)) ?_ | with_reducible refine RsL.cons (Rs.slice_eq rfl (by first | rfl) (by first | rfl) (by first | rfl)) ?_)); done) | fail)) | fail)
       · (with_reducible refine rsl_force ?_); (conv => whnf); (with_reducible refine hid_mk ?_); (repeat (first | with_reducible exact RsL.nil | with_reducible refine RsL.cons (Rs.wild _) ?_ | with_reducible refine RsL.cons (Rs.int_eq (by first | rfl | omega)) ?_ | with_reducible refine RsL.cons (Rs.ptr _ _ _ rfl) ?_ | refine RsL.cons (Rs.eq rfl (by first | (simp; done))) ?_))
       done)
theorem law09_SlpFresh.e (p q : SProg) (hp : p.len) (hq : q.len) (hp1 : p.ops.length ≤ 4398046510976) (hq1 : q.ops.length ≤ 4398046510976) (er : Int) (hS : Pure prog 18 [p.v, q.v] (.tup [SProg.oV, .int .i64 er])) (hz : Pure prog 19 [p.v, q.v] (.tup [SProg.oV, .int .i64 er])) : Pure prog 8 [p.v, q.v] (.bool true) := by
  have hcp := ref09_Copy.a p hp hp1
  have hcq := ref09_Copy.a q hq hq1
  have hA := anchored.q
  have hSp := ref09_Same.a p p hp
  have hSq := ref09_Same.a q q hq
  have hSo := ref09_Same.o
  rw [decide_eq_true rfl] at hSp hSq
  refine pure_of_vc law09_SlpFresh.k (List.forall_mem_cons.2 ⟨sprog_cl p, List.forall_mem_cons.2 ⟨sprog_cl q, by simp⟩⟩) ?_
  conv => whnf
  repeat' ((first | (with_reducible refine hid_mk ?_) | (with_reducible refine both_mk rfl ?_) | (with_reducible refine alts_mk ?_ ?_) | (with_reducible refine Pure.use (hcp) ?_) | (with_reducible refine Pure.use (hcq) ?_) | (with_reducible refine Pure.use (hS) ?_) | (with_reducible refine Pure.use (hz) ?_) | (with_reducible refine Pure.use (hA) ?_) | (with_reducible refine Pure.use (hSp) ?_) | (with_reducible refine Pure.use (hSq) ?_) | (with_reducible refine Pure.use (hSo) ?_) | (with_reducible refine vloop_roll ?_) | (with_reducible refine vblk_same ?_)) <;> (conv => whnf))
  all_goals first | exact fin_pure rfl (by simp) | exact fin_pure (by simp) (by simp) | fail

theorem law09_SlpFresh.a (p q : SProg) (hp : p.len) (hq : q.len) (hp1 : p.ops.length ≤ 4398046510976) (hq1 : q.ops.length ≤ 4398046510976) : Pure prog 8 [p.v, q.v] (.bool true) := by
  by_cases hm : SMay p ∧ SMay q ∧ (q.outs.length : Int) = p.n
  · obtain ⟨hmp, hmq, hn⟩ := hm
    by_cases hs : p.ops.length + q.ops.length ≤ 256
    · exact law09_SlpFresh.s p q hp hq hp1 hq1 hmp hmq hn hs
    · exact law09_SlpFresh.e p q hp hq hp1 hq1 4 (slp_After.l p q hmp hmq hn hs) (ref09_After.l p q hmp hmq hn hs)
  · exact law09_SlpFresh.e p q hp hq hp1 hq1 2 (slp_After.a p q hp hq hm) (ref09_After.a p q hp hq hm)

theorem SlpFresh.w (cz : List AV) (b : Nat) (h : ArgsOk prog 20 [25, 25] cz b) : Pure prog 8 cz (.bool true) := by
  obtain ⟨a, a', b1, b2, rfl, hb, h1, h2⟩ := args2 h
  obtain ⟨p, rfl, hp, hp1⟩ := arg_sprog2 h1
  obtain ⟨q, rfl, hq, hq1⟩ := arg_sprog2 h2
  exact law09_SlpFresh.a p q hp hq hp1 hq1

end Go.Proofs.YtginchgkbgcimaaDoor.C
