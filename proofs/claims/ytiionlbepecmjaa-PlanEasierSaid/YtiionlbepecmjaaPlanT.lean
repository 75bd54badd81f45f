/- Plans as arguments of the rows. -/
import Derived.Test.YtiionlbepecmjaaPlanA
import Derived.Test.YtiionlbepecmjaaArow
namespace Go.Proofs.Ytiionlbepecmjaa.C
open Go Go.RowKit Go.Proofs.Ytiionlbepecmjaa.AL

theorem ty_plan {n b : Nat} {cz : List AV} (h : TyOk prog (n + 2) 24 cz b) : ∃ p : Pl, p.Ok ∧ cz = p.cells := by
  obtain ⟨a1, b1, r1, c1, h1, g1, e1, _⟩ := ty_struct Try.underlying24 h
  obtain ⟨f, rfl, hf⟩ := ty_u8 Try.underlying22 h1
  obtain ⟨a2, b2, r2, c2, h2, g2, e2, _⟩ := g1
  obtain ⟨x2, rfl, q2⟩ := ty_i64 Try.underlying3 h2
  obtain ⟨a3, b3, r3, c3, h3, g3, e3, _⟩ := g2
  obtain ⟨x3, rfl, q3⟩ := ty_i64 Try.underlying3 h3
  obtain ⟨a4, b4, r4, c4, h4, g4, e4, _⟩ := g3
  obtain ⟨x4, rfl, q4⟩ := ty_i64 Try.underlying3 h4
  obtain ⟨a5, b5, r5, c5, h5, g5, e5, _⟩ := g4
  obtain ⟨x5, rfl, q5⟩ := ty_i64 Try.underlying3 h5
  obtain ⟨a6, b6, r6, c6, h6, g6, e6, _⟩ := g5
  obtain ⟨x6, rfl, q6⟩ := ty_i64 Try.underlying3 h6
  obtain ⟨a7, b7, r7, c7, h7, g7, e7, _⟩ := g6
  obtain ⟨x7, rfl, q7⟩ := ty_i64 Try.underlying3 h7
  obtain ⟨a8, b8, r8, c8, h8, g8, e8, _⟩ := g7
  obtain ⟨x8, rfl, q8⟩ := ty_i64 Try.underlying3 h8
  have e9 : r8 = [] := g8
  subst e9 e8 e7 e6 e5 e4 e3 e2 e1
  exact ⟨⟨f, x2, x3, x4, x5, x6, x7, x8⟩, ⟨hf, q2, q3, q4, q5, q6, q7, q8⟩, rfl⟩

theorem arg_plan {n b : Nat} {a : AV} (h : ArgOk prog (n + 2) 24 a b) : ∃ p : Pl, p.Ok ∧ a = p.v := by
  unfold ArgOk at h
  rw [Try.underlying24] at h
  obtain ⟨cz, rfl, h⟩ := h
  obtain ⟨p, hp, rfl⟩ := ty_plan h
  exact ⟨p, hp, rfl⟩
theorem arg_int {n b : Nat} {a : AV} (h : ArgOk prog (n + 2) 3 a b) : ∃ x, a = .int .i64 x ∧ I64 x := by
  unfold ArgOk at h
  rw [Try.underlying3] at h
  obtain ⟨x, e, hx⟩ := ty_i64 Try.underlying3 h
  exact ⟨x, by simpa using e, hx⟩
theorem arg_u8 {n b : Nat} {a : AV} (h : ArgOk prog (n + 2) 5 a b) : ∃ x, a = .int .u8 x ∧ (0 ≤ x ∧ x ≤ 255) := by
  unfold ArgOk at h
  rw [Try.underlying5] at h
  obtain ⟨x, e, hx⟩ := ty_u8 Try.underlying5 h
  exact ⟨x, by simpa using e, hx⟩

theorem args1 {P : Program} {F : Nat} {t : TypeId} {cz : List AV} {b : Nat} (h : ArgsOk P F [t] cz b) : ∃ a b', cz = [a] ∧ b' ≤ b ∧ ArgOk P F t a b' := by
  match cz, h with
  | [a], ⟨b1, b2, h1, _, h3⟩ => exact ⟨a, b1, rfl, by omega, h1⟩
theorem args2 {P : Program} {F : Nat} {t u : TypeId} {cz : List AV} {b : Nat} (h : ArgsOk P F [t, u] cz b) : ∃ a a' b1 b2, cz = [a, a'] ∧ b1 + b2 ≤ b ∧ ArgOk P F t a b1 ∧ ArgOk P F u a' b2 := by
  match cz, h with
  | [a, a'], ⟨b1, b2, h1, ⟨b3, b4, h4, _, h5⟩, h3⟩ => exact ⟨a, a', b1, b3, rfl, by omega, h1, h4⟩

end Go.Proofs.Ytiionlbepecmjaa.C
