/- Straight-line programs as arguments. -/
import Derived.Test.YtginchgkbgcimaaDoorSlpI
import Derived.Test.YtginchgkbgcimaaDoorAarg
namespace Go.Proofs.YtginchgkbgcimaaDoor.C
open Go Go.RowKit Go.Proofs.YtginchgkbgcimaaDoor.AL
set_option maxRecDepth 100000

theorem ty_sop {n b : Nat} {cz : List AV} (h : TyOk prog (n + 2) 47 cz b) : ∃ o : SOp, cz = o.enc := by
  obtain ⟨a1, b1, r1, c1, h1, g1, e1, _⟩ := ty_struct Tryd.underlying47 h
  obtain ⟨k, rfl, _⟩ := ty_u8 Tryd.underlying44 h1
  obtain ⟨a2, b2, r2, c2, h2, g2, e2, _⟩ := g1
  obtain ⟨x, rfl, _⟩ := ty_i64 Tryd.underlying3 h2
  obtain ⟨a3, b3, r3, c3, h3, g3, e3, _⟩ := g2
  obtain ⟨y, rfl, _⟩ := ty_i64 Tryd.underlying3 h3
  obtain ⟨a4, b4, r4, c4, h4, g4, e4, _⟩ := g3
  obtain ⟨z, rfl, _⟩ := ty_u64 Tryd.underlying45 h4
  have e5 : r4 = [] := g4
  subst e5 e4 e3 e2 e1
  exact ⟨⟨k, x, y, z⟩, rfl⟩
theorem ty_sprog {n b : Nat} {cz : List AV} (h : TyOk prog (n + 5) 25 cz b) : ∃ p : SProg, cz = p.cells ∧ p.len := by
  obtain ⟨a1, b1, r1, c1, h1, g1, e1, _⟩ := ty_struct Tryd.underlying25 h
  obtain ⟨x, rfl, _⟩ := ty_i64 Tryd.underlying3 h1
  obtain ⟨a2, b2, r2, c2, h2, g2, e2, _⟩ := g1
  obtain ⟨l, rfl, _, hl, _⟩ := ty_slice Tryd.underlying22 h2 SOp.enc (fun _ _ => True) (fun cs b h => by
    obtain ⟨x, e⟩ := ty_sop h
    exact ⟨x, e, trivial⟩)
  have hb : Program.bytesOf prog 47 = 32 := by kernel_rfl
  rw [hb, reach_eq] at hl
  obtain ⟨a3, b3, r3, c3, h3, g3, e3, _⟩ := g2
  obtain ⟨m, rfl, hm, _, _⟩ := cz_of_i64s Tryd.underlying23 Tryd.underlying3 (by kernel_rfl) h3
  have e4 : r3 = [] := g3
  subst e4 e3 e2 e1
  exact ⟨⟨x, l, m⟩, rfl, by dsimp only [SProg.len]; omega⟩
theorem arg_sprog {n b : Nat} {a : AV} (h : ArgOk prog (n + 5) 25 a b) : ∃ p : SProg, a = p.v ∧ p.len := by
  unfold ArgOk at h
  rw [Tryd.underlying25] at h
  obtain ⟨cz, rfl, h⟩ := h
  obtain ⟨p, rfl, hp⟩ := ty_sprog h
  exact ⟨p, rfl, hp⟩

theorem SlpMays.w (hA : Pure prog 15 [] (.bool true)) (cz : List AV) (b : Nat) (h : ArgsOk prog 20 [25, 25] cz b) : Pure prog 5 cz (.bool true) := by
  obtain ⟨a, a', _, _, rfl, _, h1, h2⟩ := args2 h
  obtain ⟨p, rfl, hp⟩ := arg_sprog h1
  obtain ⟨q, rfl, hq⟩ := arg_sprog h2
  exact law09_SlpMays.a hA p q hp hq

end Go.Proofs.YtginchgkbgcimaaDoor.C
