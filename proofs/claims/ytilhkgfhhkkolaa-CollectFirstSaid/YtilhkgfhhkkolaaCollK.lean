/- The walk of CollectFirst, as its row asks for it. -/
import Derived.Test.YtilhkgfhhkkolaaCollJ
namespace Go.Proofs.Ytilhkgfhhkkolaa.C
open Go Go.RowKit Go.Proofs.Ytilhkgfhhkkolaa.AL
set_option maxRecDepth 100000

theorem arg_by3 {n b : Nat} {a : AV} (h : ArgOk prog (n + 2) 25 a b) : ∃ x y z : Int, a = by3 x y z ∧ I64 x ∧ I64 y ∧ I64 z := by
  unfold ArgOk at h
  rw [Try.underlying25] at h
  obtain ⟨cz, rfl, h⟩ := h
  obtain ⟨a1, b1, r1, c1, h1, g1, e1, _⟩ := ty_array Try.underlying25 h
  obtain ⟨x, rfl, hx⟩ := ty_i64 Try.underlying3 h1
  obtain ⟨a2, b2, r2, c2, h2, g2, e2, _⟩ := g1
  obtain ⟨y, rfl, hy⟩ := ty_i64 Try.underlying3 h2
  obtain ⟨a3, b3, r3, c3, h3, g3, e3, _⟩ := g2
  obtain ⟨z, rfl, hz⟩ := ty_i64 Try.underlying3 h3
  have e4 : r3 = [] := g3
  subst e4 e3 e2 e1
  exact ⟨x, y, z, rfl, hx, hy, hz⟩

theorem CollectFirst.w (cz : List AV) (b : Nat) (h : ArgsOk prog 20 [24, 25, 26] cz b) : Pure prog 3 cz (.bool true) := by
  obtain ⟨a, a', a'', _, _, _, rfl, _, h1, h2, h3⟩ := args3 h
  obtain ⟨p, hp, rfl⟩ := arg_plan h1
  obtain ⟨x, y, z, rfl, _, _, _⟩ := arg_by3 h2
  obtain ⟨l, rfl, hl, hb⟩ := arg_pkts h3
  exact law25_CollectFirst.a law25_anchored.a p x y z l hp.f hl hb

end Go.Proofs.Ytilhkgfhhkkolaa.C
