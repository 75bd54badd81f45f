/- Layer 21: scripts as arguments. -/
import Derived.Test.YtapgnmigpfcdfaaNetB
import Derived.Test.YtapgnmigpfcdfaaAarg
namespace Go.Proofs.Ytapgnmigpfcdfaa.C
open Go Go.RowKit Go.Proofs.Ytapgnmigpfcdfaa.AL

theorem ty_nop {n b : Nat} {cz : List AV} (h : TyOk prog (n + 3) 29 cz b) : ∃ o : NOp, cz = o.enc := by
  obtain ⟨a1, b1, r1, c1, h1, g1, e1, _⟩ := ty_struct Try.underlying29 h
  obtain ⟨c, rfl, _⟩ := ty_u8 Try.underlying5 h1
  obtain ⟨a2, b2, r2, c2, h2, g2, e2, _⟩ := g1
  obtain ⟨a, rfl, _⟩ := ty_i64 Try.underlying3 h2
  obtain ⟨a3, b3, r3, c3, h3, g3, e3, _⟩ := g2
  obtain ⟨x, rfl, _⟩ := ty_i64 Try.underlying3 h3
  obtain ⟨a4, b4, r4, c4, h4, g4, e4, _⟩ := g3
  obtain ⟨l, rfl, _, _⟩ := cz_of_u8s Try.underlying27 Try.underlying5 (by kernel_rfl) h4
  have e5 : r4 = [] := g4
  subst e5 e4 e3 e2 e1
  exact ⟨⟨c, a, x, l⟩, rfl⟩
theorem arg_nops {n b : Nat} {a : AV} (h : ArgOk prog (n + 5) 22 a b) : ∃ l : List NOp, a = nops l ∧ l.length ≤ 17592186043904 := by
  unfold ArgOk at h
  rw [Try.underlying22] at h
  obtain ⟨l, e, _, hl, _⟩ := ty_slice Try.underlying22 h NOp.enc (fun _ _ => True) (fun cs b h => by
    obtain ⟨x, e⟩ := ty_nop h
    exact ⟨x, e, trivial⟩)
  have hb : Program.bytesOf prog 29 = 48 := by kernel_rfl
  rw [hb, reach_eq] at hl
  exact ⟨l, by simpa using e, by omega⟩

end Go.Proofs.Ytapgnmigpfcdfaa.C
