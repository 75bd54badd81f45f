/- The laws of layer 28, for the rows. -/
import Derived.Test.YtbalpmdoeikkbaaReplanH
import Derived.Test.YtbalpmdoeikkbaaPlanT
namespace Go.Proofs.Ytbalpmdoeikkbaa.C
open Go Go.RowKit Go.Proofs.Ytbalpmdoeikkbaa.AL

theorem flat_map {α : Type} (f : α → AV) (l : List α) : (l.flatMap fun x => [f x]) = l.map f := by
  induction l with
  | nil => rfl
  | cons x l ih => rw [List.flatMap_cons, ih]; rfl

theorem bytes_int : Program.bytesOf prog 3 = 8 := by kernel_rfl
theorem reach_eq : reachBytes = 140737488351232 := by decide
theorem cz_ints {n b : Nat} {cz : List AV} (h : TyOk prog (n + 2) 25 cz b) : ∃ l : List Int, cz = [i64s l] ∧ l.length ≤ 17592186043904 := by
  obtain ⟨l, rfl, _, hl, _⟩ := ty_slice Try.underlying25 h (fun x : Int => [.int .i64 x]) (fun _ _ => True) (fun cs b h => by
    obtain ⟨x, e, hx⟩ := ty_i64 Try.underlying3 h
    exact ⟨x, e, trivial⟩)
  rw [bytes_int, reach_eq] at hl
  exact ⟨l, by rw [flat_map], by omega⟩
theorem arg_ints {n b : Nat} {a : AV} (h : ArgOk prog (n + 2) 25 a b) : ∃ l : List Int, a = i64s l ∧ l.length ≤ 17592186043904 := by
  unfold ArgOk at h
  rw [Try.underlying25] at h
  obtain ⟨l, e, hl⟩ := cz_ints h
  exact ⟨l, by simpa using e, hl⟩
theorem bytes_ints : Program.bytesOf prog 25 = 24 := by kernel_rfl
theorem arg_intss {n b : Nat} {a : AV} (h : ArgOk prog (n + 3) 42 a b) : ∃ l : List (List Int), a = .islice false l.length (l.map i64s) ∧ l.length ≤ 17592186043904 ∧ ∀ t ∈ l, t.length ≤ 17592186043904 := by
  unfold ArgOk at h
  rw [Try.underlying42] at h
  obtain ⟨l, e, _, hl, bs, h1, h2, h3⟩ := ty_slice Try.underlying42 h (fun x : List Int => [i64s x]) (fun x _ => x.length ≤ 17592186043904) (fun cs b h => by
    obtain ⟨x, e, hx⟩ := cz_ints h
    exact ⟨x, e, hx⟩)
  rw [flat_map] at e
  rw [bytes_ints, reach_eq] at hl
  refine ⟨l, by simpa using e, by omega, ?_⟩
  intro t ht
  obtain ⟨i, hi, rfl⟩ := List.mem_iff_getElem.1 ht
  have hi' : i < bs.length := by omega
  exact h3 i l[i] bs[i] (List.getElem?_eq_getElem _) (List.getElem?_eq_getElem _)
theorem args3 {P : Program} {F : Nat} {t u s : TypeId} {cz : List AV} {b : Nat} (h : ArgsOk P F [t, u, s] cz b) : ∃ a a' a'' b1 b2 b3, cz = [a, a', a''] ∧ b1 + b2 + b3 ≤ b ∧ ArgOk P F t a b1 ∧ ArgOk P F u a' b2 ∧ ArgOk P F s a'' b3 := by
  match cz, h with
  | [a, a', a''], ⟨b1, b2, h1, ⟨b3, b4, h4, ⟨b5, b6, h6, _, h8⟩, h5⟩, h3⟩ => exact ⟨a, a', a'', b1, b3, b5, rfl, by omega, h1, h4, h6⟩

theorem ReplanExcludes.w (cz : List AV) (b : Nat) (h : ArgsOk prog 20 [24, 25, 25] cz b) : Pure prog 4 cz (.bool true) := by
  obtain ⟨a, a', a'', _, _, _, rfl, _, h, h', h''⟩ := args3 h
  obtain ⟨p, hp, rfl⟩ := arg_plan h
  obtain ⟨al, rfl, ha⟩ := arg_ints h'
  obtain ⟨fa, rfl, hf⟩ := arg_ints h''
  exact law28_ReplanExcludes.a p hp.f al fa (by simp only [Len]; omega) (by simp only [Len]; omega)
theorem ReplanChains.w (cz : List AV) (b : Nat) (h : ArgsOk prog 20 [24, 42] cz b) : Pure prog 6 cz (.bool true) := by
  obtain ⟨a, a', _, _, rfl, _, h, h'⟩ := args2 h
  obtain ⟨p, hp, rfl⟩ := arg_plan h
  obtain ⟨ts, rfl, ha, hf⟩ := arg_intss h'
  exact law28_ReplanChains.a p hp.f ts (by simp only [Len]; omega) (fun t ht => by have := hf t ht; simp only [Len]; omega)

end Go.Proofs.Ytbalpmdoeikkbaa.C
