/- Layer 28: the law ReplanOnce, for its row. -/
import Derived.Test.YtbalpmdoeikkbaaReplanP
import Derived.Test.YtbalpmdoeikkbaaReplanR
namespace Go.Proofs.Ytbalpmdoeikkbaa.C
open Go Go.RowKit Go.Proofs.Ytbalpmdoeikkbaa.AL

theorem arg_ints_lt {n b : Nat} {a : AV} (h : ArgOk prog (n + 2) 25 a b) : ∃ l : List Int, a = i64s l ∧ l.length < b := by
  unfold ArgOk at h
  rw [Try.underlying25] at h
  obtain ⟨l, e, hl, _⟩ := ty_slice Try.underlying25 h (fun x : Int => [.int .i64 x]) (fun _ _ => True) (fun cs b h => by
    obtain ⟨x, e, hx⟩ := ty_i64 Try.underlying3 h
    exact ⟨x, e, trivial⟩)
  rw [flat_map] at e
  exact ⟨l, by simpa using e, hl⟩
theorem ReplanOnce.w (cz : List AV) (b : Nat) (h : ArgsOk prog 20 [24, 25] cz b) (hb : b ≤ 1048576) : Pure prog 7 cz (.bool true) := by
  obtain ⟨a, a', _, _, rfl, _, h, h'⟩ := args2 h
  obtain ⟨p, hp, rfl⟩ := arg_plan h
  obtain ⟨fa, rfl, hf⟩ := arg_ints_lt h'
  exact law28_ReplanOnce.a p hp.f fa (by omega)

end Go.Proofs.Ytbalpmdoeikkbaa.C
