/- Arguments of rows: lists of arguments, opened. -/
import Derived.Test.YtginchgkbgcimaaDoorArow
namespace Go.Proofs.YtginchgkbgcimaaDoor.AL
open Go Go.RowKit

theorem args1 {P : Program} {F : Nat} {t : TypeId} {cz : List AV} {b : Nat} (h : ArgsOk P F [t] cz b) : ∃ a b', cz = [a] ∧ b' ≤ b ∧ ArgOk P F t a b' := by
  match cz, h with
  | [a], ⟨b1, b2, h1, _, h3⟩ => exact ⟨a, b1, rfl, by omega, h1⟩
theorem args2 {P : Program} {F : Nat} {t u : TypeId} {cz : List AV} {b : Nat} (h : ArgsOk P F [t, u] cz b) : ∃ a a' b1 b2, cz = [a, a'] ∧ b1 + b2 ≤ b ∧ ArgOk P F t a b1 ∧ ArgOk P F u a' b2 := by
  match cz, h with
  | [a, a'], ⟨b1, b2, h1, ⟨b3, b4, h4, _, h5⟩, h3⟩ => exact ⟨a, a', b1, b3, rfl, by omega, h1, h4⟩
theorem args3 {P : Program} {F : Nat} {t u s : TypeId} {cz : List AV} {b : Nat} (h : ArgsOk P F [t, u, s] cz b) : ∃ a a' a'' b1 b2 b3, cz = [a, a', a''] ∧ b1 + b2 + b3 ≤ b ∧ ArgOk P F t a b1 ∧ ArgOk P F u a' b2 ∧ ArgOk P F s a'' b3 := by
  match cz, h with
  | [a, a', a''], ⟨b1, b2, h1, ⟨b3, b4, h4, ⟨b5, b6, h6, _, h8⟩, h5⟩, h3⟩ => exact ⟨a, a', a'', b1, b3, b5, rfl, by omega, h1, h4, h6⟩

theorem flat_map {α : Type} (f : α → AV) (l : List α) : l.flatMap (fun x => [f x]) = l.map f := by
  induction l with
  | nil => rfl
  | cons x l ih => rw [List.flatMap_cons, ih]; rfl
theorem reach_eq : reachBytes = 140737488351232 := by decide

theorem arg_of_i64 {P : Program} {t : TypeId} {n b : Nat} {a : AV} (hu : P.underlying t = some (.int .i64)) (h : ArgOk P (n + 2) t a b) : ∃ x, a = .int .i64 x ∧ I64 x := by
  unfold ArgOk at h
  rw [hu] at h
  obtain ⟨x, e, hx⟩ := ty_i64 hu h
  exact ⟨x, by simpa using e, hx⟩
theorem arg_of_u8 {P : Program} {t : TypeId} {n b : Nat} {a : AV} (hu : P.underlying t = some (.int .u8)) (h : ArgOk P (n + 2) t a b) : ∃ x, a = .int .u8 x ∧ (0 ≤ x ∧ x ≤ 255) := by
  unfold ArgOk at h
  rw [hu] at h
  obtain ⟨x, e, hx⟩ := ty_u8 hu h
  exact ⟨x, by simpa using e, hx⟩
theorem cz_of_i64s {P : Program} {t e : TypeId} {n b : Nat} {cz : List AV} (hu : P.underlying t = some (.slice e)) (he : P.underlying e = some (.int .i64)) (hb : P.bytesOf e = 8) (h : TyOk P (n + 2) t cz b) : ∃ l : List Int, cz = [i64s l] ∧ l.length ≤ 17592186043904 ∧ l.length < b ∧ ∀ x ∈ l, I64 x := by
  obtain ⟨l, rfl, hlb, hl, bs, h1, h2, h3⟩ := ty_slice hu h (fun x : Int => [.int .i64 x]) (fun x _ => I64 x) (fun cs b h => by
    obtain ⟨x, e, hx⟩ := ty_i64 he h
    exact ⟨x, e, hx⟩)
  rw [hb, reach_eq] at hl
  refine ⟨l, by rw [flat_map], by omega, hlb, ?_⟩
  intro t ht
  obtain ⟨i, hi, rfl⟩ := List.mem_iff_getElem.1 ht
  have hi' : i < bs.length := by omega
  exact h3 i l[i] bs[i] (List.getElem?_eq_getElem _) (List.getElem?_eq_getElem _)
theorem cz_of_u8s {P : Program} {t e : TypeId} {n b : Nat} {cz : List AV} (hu : P.underlying t = some (.slice e)) (he : P.underlying e = some (.int .u8)) (hb : P.bytesOf e = 1) (h : TyOk P (n + 2) t cz b) : ∃ l : List UInt8, cz = [u8s l] ∧ l.length ≤ 140737488351232 ∧ l.length < b := by
  obtain ⟨l, rfl, hlb, hl, bs, h1, h2, h3⟩ := ty_slice hu h (fun x : UInt8 => [byt x]) (fun _ _ => True) (fun cs b h => by
    obtain ⟨x, e, hx⟩ := ty_u8 he h
    refine ⟨UInt8.ofNat x.toNat, ?_, trivial⟩
    rw [e]
    simp only [byt, UInt8.toNat_ofNat']
    congr 2
    omega)
  rw [hb, reach_eq] at hl
  exact ⟨l, by rw [flat_map], by omega, hlb⟩
theorem arg_of_u8s {P : Program} {t e : TypeId} {n b : Nat} {a : AV} (hu : P.underlying t = some (.slice e)) (he : P.underlying e = some (.int .u8)) (hb : P.bytesOf e = 1) (h : ArgOk P (n + 2) t a b) : ∃ l : List UInt8, a = u8s l ∧ l.length ≤ 140737488351232 ∧ l.length < b := by
  unfold ArgOk at h
  rw [hu] at h
  obtain ⟨l, e, h1, h2⟩ := cz_of_u8s hu he hb h
  exact ⟨l, by simpa using e, h1, h2⟩

end Go.Proofs.YtginchgkbgcimaaDoor.AL
