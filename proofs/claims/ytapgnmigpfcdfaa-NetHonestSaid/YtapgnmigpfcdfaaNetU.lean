/- Layer 21: the walk of NetHonest, as its row asks for it. -/
import Derived.Test.YtapgnmigpfcdfaaNetK
import Derived.Test.YtapgnmigpfcdfaaNetO
namespace Go.Proofs.Ytapgnmigpfcdfaa.C
open Go Go.RowKit Go.Proofs.Ytapgnmigpfcdfaa.AL

theorem arg_nopsT {n b : Nat} {a : AV} (h : ArgOk prog (n + 5) 22 a b) : ∃ l : List NOp, a = nops l ∧ l.length ≤ 2932031007317 := by
  unfold ArgOk at h
  rw [Try.underlying22] at h
  obtain ⟨l, e, _, hl, _⟩ := ty_slice Try.underlying22 h NOp.enc (fun _ _ => True) (fun cs b h => by
    obtain ⟨x, e⟩ := ty_nop h
    exact ⟨x, e, trivial⟩)
  have hb : Program.bytesOf prog 29 = 48 := by kernel_rfl
  rw [hb, reach_eq] at hl
  exact ⟨l, by simpa using e, by omega⟩

theorem NetHonest.w (cz : List AV) (b : Nat) (h : ArgsOk prog 20 [22] cz b) : Pure prog 5 cz (.bool true) := by
  obtain ⟨a, _, rfl, _, h⟩ := args1 h
  obtain ⟨l, rfl, hl⟩ := arg_nopsT h
  exact law21_NetHonest.a l hl

end Go.Proofs.Ytapgnmigpfcdfaa.C
