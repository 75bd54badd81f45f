/- Straight-line programs: the document's After and its errors; the law SlpAfters. -/
import Derived.Test.YtginchgkbgcimaaDoorSlpP
import Derived.Test.YtginchgkbgcimaaDoorSlpM
import Derived.Test.YtginchgkbgcimaaDoorSlpJ
namespace Go.Proofs.YtginchgkbgcimaaDoor.C
open Go Go.RowKit Go.Proofs.YtginchgkbgcimaaDoor.AL
set_option maxRecDepth 100000
set_option maxHeartbeats 40000000
set_option linter.unusedVariables false
set_option linter.unusedSimpArgs false

set_option maxRecDepth 1000000
theorem ref09_After.l (p q : SProg) (hp : SMay p) (hq : SMay q) (hn0 : (q.outs.length : Int) = p.n) (hsum : ¬ p.ops.length + q.ops.length ≤ 256) : Pure prog 19 [p.v, q.v] (.tup [SProg.oV, .int .i64 4]) := by
  have h1 := ref09_May.t p hp
  have h2 := ref09_May.t q hq
  obtain ⟨m1, m2, m3, m4, m5⟩ := hp
  obtain ⟨r1, r2, r3, r4, r5⟩ := hq
  refine pure_of_vc ref09_After.k (List.forall_mem_cons.2 ⟨sprog_cl p, List.forall_mem_cons.2 ⟨sprog_cl q, by simp⟩⟩) ?_
  conv => whnf
  repeat' ((first | (with_reducible refine hid_mk ?_) | (with_reducible refine bcase_dt (by omega) ?_) | (with_reducible refine bcase_nf (by omega) ?_) | (with_reducible refine Pure.use (h1) ?_) | (with_reducible refine Pure.use (h2) ?_) | (with_reducible refine wnum_i64 (by omega) ?_)) <;> (conv => whnf))
  all_goals exact fin_pure rfl (by simp)
theorem ref09_After.a (p q : SProg) (hlp : p.len) (hlq : q.len) (hno : ¬ (SMay p ∧ SMay q ∧ (q.outs.length : Int) = p.n)) : Pure prog 19 [p.v, q.v] (.tup [SProg.oV, .int .i64 2]) := by
  by_cases hp : SMay p
  · have h1 := ref09_May.t p hp
    by_cases hq : SMay q
    · have h2 := ref09_May.t q hq
      have hn : ¬ (q.outs.length : Int) = p.n := fun e => hno ⟨hp, hq, e⟩
      refine pure_of_vc ref09_After.k (List.forall_mem_cons.2 ⟨sprog_cl p, List.forall_mem_cons.2 ⟨sprog_cl q, by simp⟩⟩) ?_
      conv => whnf
      repeat' ((first | (with_reducible refine hid_mk ?_) | (with_reducible refine bcase_nt (by omega) ?_) | (with_reducible refine Pure.use (h1) ?_) | (with_reducible refine Pure.use (h2) ?_)) <;> (conv => whnf))
      all_goals exact fin_pure rfl (by simp)
    · have h2 := ref09_May.f q hlq hq
      refine pure_of_vc ref09_After.k (List.forall_mem_cons.2 ⟨sprog_cl p, List.forall_mem_cons.2 ⟨sprog_cl q, by simp⟩⟩) ?_
      conv => whnf
      repeat' ((first | (with_reducible refine hid_mk ?_) | (with_reducible refine Pure.use (h1) ?_) | (with_reducible refine Pure.use (h2) ?_)) <;> (conv => whnf))
      all_goals exact fin_pure rfl (by simp)
  · have h1 := ref09_May.f p hlp hp
    refine pure_of_vc ref09_After.k (List.forall_mem_cons.2 ⟨sprog_cl p, List.forall_mem_cons.2 ⟨sprog_cl q, by simp⟩⟩) ?_
    conv => whnf
    repeat' ((first | (with_reducible refine hid_mk ?_) | (with_reducible refine Pure.use (h1) ?_)) <;> (conv => whnf))
    all_goals exact fin_pure rfl (by simp)
theorem ref09_Same.o : Pure prog 13 [SProg.oV, SProg.oV] (.bool true) := by
  refine pure_of_vc ref09_Same.k (by simp) ?_
  conv => whnf
  repeat' ((first | (with_reducible refine hid_mk ?_) | (with_reducible refine fin_inl ?_) | (with_reducible refine acalls_of_vc ref09_Ints.k ?_) | (with_reducible refine vloop_roll ?_) | (with_reducible refine vblk_same ?_)) <;> (conv => whnf))
  all_goals exact fin_pure rfl (by simp)
theorem aft_len {p q : SProg} (hp : SMay p) (hq : SMay q) : (aft p q).len := by
  have h1 := hp.l
  have h2 := hq.l
  have h3 := hp.m
  constructor
  · simp [aft]; omega
  · simp [aft]; omega
theorem law09_SlpAfters.a (p q : SProg) (hp : p.len) (hq : q.len) : Pure prog 6 [p.v, q.v] (.bool true) := by
  have hA := anchored.q
  have hO := ref09_Same.o
  by_cases hm : SMay p ∧ SMay q ∧ (q.outs.length : Int) = p.n
  · obtain ⟨hmp, hmq, hn⟩ := hm
    by_cases hs : p.ops.length + q.ops.length ≤ 256
    · have h1 := slp_After.s p q hmp hmq hn hs
      have h2 := ref09_After.t p q hmp hmq hn hs
      have h3 := ref09_Same.a (aft p q) (aft p q) (aft_len hmp hmq)
      rw [decide_eq_true rfl] at h3
      refine pure_of_vc law09_SlpAfters.k (List.forall_mem_cons.2 ⟨sprog_cl p, List.forall_mem_cons.2 ⟨sprog_cl q, by simp⟩⟩) ?_
      conv => whnf
      repeat' ((first | (with_reducible refine hid_mk ?_) | (with_reducible refine Pure.use (h1) ?_) | (with_reducible refine Pure.use (h2) ?_) | (with_reducible refine Pure.use (h3) ?_) | (with_reducible refine Pure.use (hA) ?_)) <;> (conv => whnf))
      all_goals exact fin_pure rfl (by simp)
    · have h1 := slp_After.l p q hmp hmq hn hs
      have h2 := ref09_After.l p q hmp hmq hn hs
      refine pure_of_vc law09_SlpAfters.k (List.forall_mem_cons.2 ⟨sprog_cl p, List.forall_mem_cons.2 ⟨sprog_cl q, by simp⟩⟩) ?_
      conv => whnf
      repeat' ((first | (with_reducible refine hid_mk ?_) | (with_reducible refine Pure.use (h1) ?_) | (with_reducible refine Pure.use (h2) ?_) | (with_reducible refine Pure.use (hO) ?_) | (with_reducible refine Pure.use (hA) ?_)) <;> (conv => whnf))
      all_goals exact fin_pure rfl (by simp)
  · have h1 := slp_After.a p q hp hq hm
    have h2 := ref09_After.a p q hp hq hm
    refine pure_of_vc law09_SlpAfters.k (List.forall_mem_cons.2 ⟨sprog_cl p, List.forall_mem_cons.2 ⟨sprog_cl q, by simp⟩⟩) ?_
    conv => whnf
    repeat' ((first | (with_reducible refine hid_mk ?_) | (with_reducible refine Pure.use (h1) ?_) | (with_reducible refine Pure.use (h2) ?_) | (with_reducible refine Pure.use (hO) ?_) | (with_reducible refine Pure.use (hA) ?_)) <;> (conv => whnf))
    all_goals exact fin_pure rfl (by simp)

theorem SlpAfters.w (cz : List AV) (b : Nat) (h : ArgsOk prog 20 [25, 25] cz b) : Pure prog 6 cz (.bool true) := by
  obtain ⟨a, a', b1, b2, rfl, hb, h1, h2⟩ := args2 h
  obtain ⟨p, rfl, hp⟩ := arg_sprog h1
  obtain ⟨q, rfl, hq⟩ := arg_sprog h2
  exact law09_SlpAfters.a p q hp hq

end Go.Proofs.YtginchgkbgcimaaDoor.C
