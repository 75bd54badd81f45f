/- Straight-line programs: After, and its errors. -/
import Derived.Test.YtginchgkbgcimaaDoorSlpS
namespace Go.Proofs.YtginchgkbgcimaaDoor.C
open Go Go.RowKit Go.Proofs.YtginchgkbgcimaaDoor.AL
set_option maxRecDepth 100000
set_option maxHeartbeats 40000000
set_option linter.unusedVariables false
set_option linter.unusedSimpArgs false

set_option maxRecDepth 1000000
theorem slp_After.l (p q : SProg) (hp : SMay p) (hq : SMay q) (hn0 : (q.outs.length : Int) = p.n) (hsum : ¬ p.ops.length + q.ops.length ≤ 256) : Pure prog 18 [p.v, q.v] (.tup [SProg.oV, .int .i64 4]) := by
  have h1 := slp_May.t p hp
  have h2 := slp_May.t q hq
  obtain ⟨m1, m2, m3, m4, m5⟩ := hp
  obtain ⟨r1, r2, r3, r4, r5⟩ := hq
  refine pure_of_vc slp_After.k (List.forall_mem_cons.2 ⟨sprog_cl p, List.forall_mem_cons.2 ⟨sprog_cl q, by simp⟩⟩) ?_
  conv => whnf
  repeat' ((first | (with_reducible refine hid_mk ?_) | (with_reducible refine bcase_dt (by omega) ?_) | (with_reducible refine bcase_nf (by omega) ?_) | (with_reducible refine Pure.use (h1) ?_) | (with_reducible refine Pure.use (h2) ?_) | (with_reducible refine vblk_same ?_) | (with_reducible refine wnum_i64 (by omega) ?_)) <;> (conv => whnf))
  all_goals exact fin_pure rfl (by simp)
theorem slp_After.a (p q : SProg) (hlp : p.len) (hlq : q.len) (hno : ¬ (SMay p ∧ SMay q ∧ (q.outs.length : Int) = p.n)) : Pure prog 18 [p.v, q.v] (.tup [SProg.oV, .int .i64 2]) := by
  by_cases hp : SMay p
  · have h1 := slp_May.t p hp
    by_cases hq : SMay q
    · have h2 := slp_May.t q hq
      have hn : ¬ (q.outs.length : Int) = p.n := fun e => hno ⟨hp, hq, e⟩
      refine pure_of_vc slp_After.k (List.forall_mem_cons.2 ⟨sprog_cl p, List.forall_mem_cons.2 ⟨sprog_cl q, by simp⟩⟩) ?_
      conv => whnf
      repeat' ((first | (with_reducible refine hid_mk ?_) | (with_reducible refine bcase_nt (by omega) ?_) | (with_reducible refine Pure.use (h1) ?_) | (with_reducible refine Pure.use (h2) ?_) | (with_reducible refine vblk_same ?_)) <;> (conv => whnf))
      all_goals exact fin_pure rfl (by simp)
    · have h2 := slp_May.f q hlq hq
      refine pure_of_vc slp_After.k (List.forall_mem_cons.2 ⟨sprog_cl p, List.forall_mem_cons.2 ⟨sprog_cl q, by simp⟩⟩) ?_
      conv => whnf
      repeat' ((first | (with_reducible refine hid_mk ?_) | (with_reducible refine Pure.use (h1) ?_) | (with_reducible refine Pure.use (h2) ?_) | (with_reducible refine vblk_same ?_)) <;> (conv => whnf))
      all_goals exact fin_pure rfl (by simp)
  · have h1 := slp_May.f p hlp hp
    refine pure_of_vc slp_After.k (List.forall_mem_cons.2 ⟨sprog_cl p, List.forall_mem_cons.2 ⟨sprog_cl q, by simp⟩⟩) ?_
    conv => whnf
    repeat' ((first | (with_reducible refine hid_mk ?_) | (with_reducible refine Pure.use (h1) ?_) | (with_reducible refine vblk_same ?_)) <;> (conv => whnf))
    all_goals exact fin_pure rfl (by simp)

end Go.Proofs.YtginchgkbgcimaaDoor.C
