/- The walk's words: lists of elements, side conditions, ends. -/
import Derived.Test.YtiionlbepecmjaaAuse
namespace Go.Proofs.Ytiionlbepecmjaa.AL
open Go Go.RowKit

/-- A list's element. -/
def gt {α : Type} [Inhabited α] (l : List α) (n : Nat) : α := l.getD n default
theorem gt_eq {α : Type} [Inhabited α] {l : List α} {n : Nat} (h : n < l.length) : gt l n = l[n] := by simp [gt, h]
theorem gt_some {α : Type} [Inhabited α] {l : List α} {n : Nat} (h : n < l.length) : l[n]? = some (gt l n) := by simp [gt, h]
theorem gt_mem {α : Type} [Inhabited α] {l : List α} {n : Nat} (h : n < l.length) : gt l n ∈ l := by rw [gt_eq h]; exact List.getElem_mem h

theorem wfoc_map {α : Type} [Inhabited α] {f : α → AV} {l : List α} {n : Nat} {K : List AV → Prop} (hn : n < l.length) (k : K [f (gt l n)]) : wfoc (l.map f) n 1 K := by
  refine ⟨by simp; omega, ?_⟩
  have : ((l.map f).drop (n * 1)).take 1 = [f (gt l n)] := by
    rw [Nat.mul_one, ← List.map_drop, ← List.map_take, List.drop_eq_getElem_cons hn, gt_eq hn]; rfl
  rw [this]; exact k
theorem wfoc_mapc {α : Type} [Inhabited α] {f : α → AV} {l : List α} {n : Nat} {K : List AV → Prop} (hn : n < l.length) (k : K [f (gt l n)]) : wfoc (l.map f) (Int.toNat (n : Int)) 1 K := wfoc_map hn k

theorem flat_len {α : Type} {enc : α → List AV} {s : Nat} (he : ∀ x, (enc x).length = s) (l : List α) : (l.flatMap enc).length = l.length * s := by
  induction l with
  | nil => simp
  | cons x l ih => simp [he, ih, Nat.add_mul, Nat.add_comm]
theorem flat_drop {α : Type} {enc : α → List AV} {s : Nat} (he : ∀ x, (enc x).length = s) (l : List α) (n : Nat) : (l.flatMap enc).drop (n * s) = (l.drop n).flatMap enc := by
  induction n generalizing l with
  | zero => simp
  | succ n ih =>
    cases l with
    | nil => simp
    | cons x l =>
      rw [Nat.add_mul, Nat.one_mul, List.flatMap_cons, List.drop_append, List.drop_of_length_le (by rw [he]; omega), he, Nat.add_sub_cancel, List.nil_append, List.drop_succ_cons, ih]
theorem flat_take {α : Type} {enc : α → List AV} {s : Nat} (he : ∀ x, (enc x).length = s) (l : List α) (n : Nat) : (l.flatMap enc).take (n * s) = (l.take n).flatMap enc := by
  induction n generalizing l with
  | zero => simp
  | succ n ih =>
    cases l with
    | nil => simp
    | cons x l =>
      rw [Nat.add_mul, Nat.one_mul, List.flatMap_cons, List.take_append, List.take_of_length_le (by rw [he]; omega), he, Nat.add_sub_cancel, List.take_succ_cons, List.flatMap_cons, ih]
theorem wfoc_flat {α : Type} [Inhabited α] {l : List α} {enc : α → List AV} {s n : Nat} {K : List AV → Prop} (he : ∀ x, (enc x).length = s) (hn : n < l.length) (k : K (enc (gt l n))) : wfoc (l.flatMap enc) n s K := by
  refine ⟨?_, ?_⟩
  · rw [flat_len he]; have : (n + 1) * s ≤ l.length * s := Nat.mul_le_mul_right _ hn; rw [Nat.add_mul] at this; omega
  · rw [flat_drop he, List.drop_eq_getElem_cons hn, List.flatMap_cons, List.take_append, List.take_of_length_le (by rw [he]; omega), he, Nat.sub_self, List.take_zero, List.append_nil, ← gt_eq hn]; exact k
theorem wfoc_flatc {α : Type} [Inhabited α] {l : List α} {enc : α → List AV} {s n : Nat} {K : List AV → Prop} (he : ∀ x, (enc x).length = s) (hn : n < l.length) (k : K (enc (gt l n))) : wfoc (l.flatMap enc) (Int.toNat (n : Int)) s K := wfoc_flat he hn k
theorem wfoc_lit {cs ys : List AV} {n s : Nat} {K : List AV → Prop} (h : n * s + s ≤ cs.length) (e : (cs.drop (n * s)).take s = ys) (k : K ys) : wfoc cs n s K := ⟨h, by rw [e]; exact k⟩

theorem wald_map {α : Type} [Inhabited α] {f : α → AV} {l : List α} {n : Nat} {K : AV → Prop} (hn : n < l.length) (k : K (f (gt l n))) : wald (l.map f) 0 n 1 0 none K := by
  refine ⟨?_⟩
  have : (l.map f)[0 + n * 1 + 0]? = some (f (gt l n)) := by simp [gt_some hn]
  simp only [vcLoadC, this]; exact k
theorem wald_mapc {α : Type} [Inhabited α] {f : α → AV} {l : List α} {n : Nat} {K : AV → Prop} (hn : n < l.length) (k : K (f (gt l n))) : wald (l.map f) 0 (Int.toNat (n : Int)) 1 0 none K := wald_map hn k
theorem wast_map {α : Type} {f : α → AV} {l : List α} {n : Nat} {y : α} {K : List AV → Prop} (hc : (f y).isCell = true) (hl : (f y).cellList = [f y]) (hn : n < l.length) (k : K ((l.set n y).map f)) : wast (l.map f) 0 n 1 0 1 (f y) K := by
  refine ⟨req_mk ?_ ?_⟩
  · simp [hl, hc]; omega
  · simp only [hl, setMany, Nat.zero_add, Nat.mul_one, Nat.add_zero]
    rw [← List.map_set]; exact k
theorem wast_mapc {α : Type} {f : α → AV} {l : List α} {n : Nat} {y : α} {K : List AV → Prop} (hc : (f y).isCell = true) (hl : (f y).cellList = [f y]) (hn : n < l.length) (k : K ((l.set n y).map f)) : wast (l.map f) 0 (Int.toNat (n : Int)) 1 0 1 (f y) K := wast_map hc hl hn k
theorem wcut_map {α : Type} {f : α → AV} {l : List α} {a n : Nat} {K : List AV → Prop} (k : K (((l.drop a).take n).map f)) : wcut (l.map f) a n K := ⟨by rw [← List.map_drop, ← List.map_take]; exact k⟩
theorem wcut_all {cs : List AV} {n : Nat} {K : List AV → Prop} (h : cs.length = n) (k : K cs) : wcut cs 0 n K := ⟨by rw [List.drop_zero, List.take_of_length_le (by omega)]; exact k⟩
theorem wcat_map {α : Type} {f : α → AV} {l : List α} {y : α} {K : List AV → Prop} {m : Nat} (h : l.length = m) (k : K ((l ++ [y]).map f)) : wcat (l.map f) 0 m [f y] K :=
  ⟨by rw [List.drop_zero, List.take_of_length_le (by simp; omega)]; rw [List.map_append] at k; exact k⟩
theorem wald_lit {cs : List AV} {k j s o : Nat} {v : AV} {K : AV → Prop} (e : cs[k + j * s + o]? = some v) (q : K v) : wald cs k j s o none K := ⟨by simp only [vcLoadC, e]; exact q⟩
theorem wast_lit {cs : List AV} {k j s o n : Nat} {v : AV} {K : List AV → Prop} (e : ((v.cellList.length == n) && v.cellList.all AV.isCell && decide (k + j * s + o + n ≤ cs.length)) = true) (q : K (setMany cs (k + j * s + o) v.cellList)) : wast cs k j s o n v K := ⟨req_mk e q⟩
theorem wcut_lit {cs ys : List AV} {k n : Nat} {K : List AV → Prop} (e : (cs.drop k).take n = ys) (q : K ys) : wcut cs k n K := ⟨by rw [e]; exact q⟩
theorem wcat_lit {cs ys new : List AV} {k n : Nat} {K : List AV → Prop} (e : (cs.drop k).take n ++ new = ys) (q : K ys) : wcat cs k n new K := ⟨by rw [e]; exact q⟩
theorem ask_mk {p q : Prop} (h : p) (k : q) : ask p q := ⟨h, k⟩

theorem wrap_u64 {n : Int} (h0 : 0 ≤ n) (h1 : n < 18446744073709551616) : IntKind.u64.wrap n = n := by
  simp [IntKind.wrap, IntKind.bits, IntKind.signed]; omega
theorem wrap_u8 {n : Int} (h0 : 0 ≤ n) (h1 : n < 256) : IntKind.u8.wrap n = n := by
  simp [IntKind.wrap, IntKind.bits, IntKind.signed]; omega

theorem Rs.eq {h : Heap} {N F : List Nat} {x y : AV} (e : x = y) (hx : IdLt 0 y) : Rs h N F x y := by subst e; exact .same _ hx
theorem Rs.int_eq {h : Heap} {N F : List Nat} {k : IntKind} {a b : Int} (e : a = b) : Rs h N F (.int k a) (.int k b) := by subst e; exact .same _ (.int _ _)
theorem Rs.bool_eq {h : Heap} {N F : List Nat} {a b : Bool} (e : a = b) : Rs h N F (.bool a) (.bool b) := by subst e; exact .same _ (.bool _)
theorem Rs.str_eq {h : Heap} {N F : List Nat} {a b : ByteArray} (e : a = b) : Rs h N F (.str a) (.str b) := by subst e; exact .same _ (.str _)

/-- Bounds of numbers of 64 bits. -/
def I64 (n : Int) : Prop := -9223372036854775808 ≤ n ∧ n ≤ 9223372036854775807
theorem Wk.cons {x y : AV} {xs ys : List AV} (h : x = y) (k : Wk xs ys) : Wk (x :: xs) (y :: ys) := ⟨.inr h, k⟩
theorem Wk.wild {x : AV} {xs ys : List AV} (k : Wk xs ys) : Wk (x :: xs) (.wild :: ys) := ⟨.inl rfl, k⟩
theorem Wk.nil : Wk [] [] := trivial

theorem bcase_true {b : Bool} {A B : Prop} (h : b = true) (k : A) : bcase b A B := by subst h; exact k
theorem bcase_false {b : Bool} {A B : Prop} (h : b = false) (k : B) : bcase b A B := by subst h; exact k
theorem bcase_dt {p : Prop} [Decidable p] {A B : Prop} (h : p) (k : A) : bcase (decide p) A B := bcase_true (decide_eq_true h) k
theorem bcase_df {p : Prop} [Decidable p] {A B : Prop} (h : ¬ p) (k : B) : bcase (decide p) A B := bcase_false (decide_eq_false h) k
theorem bcase_et {a b : Int} {A B : Prop} (h : a = b) (k : A) : bcase (a == b) A B := bcase_true (by simpa using h) k
theorem bcase_ef {a b : Int} {A B : Prop} (h : a ≠ b) (k : B) : bcase (a == b) A B := bcase_false (by simpa using h) k
theorem bcase_nt {a b : Int} {A B : Prop} (h : a ≠ b) (k : A) : bcase (a != b) A B := bcase_true (by simpa using h) k
theorem bcase_nf {a b : Int} {A B : Prop} (h : a = b) (k : B) : bcase (a != b) A B := bcase_false (by simpa using h) k
theorem bcase_nbeq {a b : Nat} {A B : Prop} (h : a = b → A) (k : a ≠ b → B) : bcase (a == b) A B := bcase_mk (fun e => h (by simpa using e)) (fun e => k (by simpa using e))

theorem wnum_mk {k : IntKind} {n : Int} {K : Int → Prop} (q : K (k.wrap n)) : wnum k n K := ⟨q⟩
theorem wnum_i64 {n : Int} {K : Int → Prop} (h : -9223372036854775808 ≤ n ∧ n ≤ 9223372036854775807) (q : K n) : wnum .i64 n K := ⟨by rw [wrap_i64 (by omega) (by omega)]; exact q⟩
theorem wnum_u64 {n : Int} {K : Int → Prop} (h : 0 ≤ n ∧ n ≤ 18446744073709551615) (q : K n) : wnum .u64 n K := ⟨by rw [wrap_u64 (by omega) (by omega)]; exact q⟩
theorem wnum_u8 {n : Int} {K : Int → Prop} (h : 0 ≤ n ∧ n ≤ 255) (q : K n) : wnum .u8 n K := ⟨by rw [wrap_u8 (by omega) (by omega)]; exact q⟩
theorem wquo_nn {k : IntKind} {a b : Int} {K : Int → Prop} (h : 0 ≤ a ∧ 0 < b) (hk : k.wrap (a / b) = a / b) (q : K (a / b)) : wquo k a b K :=
  ⟨by omega, by rw [Int.tdiv_eq_ediv_of_nonneg h.1, hk]; exact q⟩
theorem wrem_nn {a b : Int} {K : Int → Prop} (h : 0 ≤ a ∧ 0 < b) (q : K (a % b)) : wrem a b K := ⟨by omega, by rw [Int.tmod_eq_emod_of_nonneg h.1]; exact q⟩

/-- A pure function's end. -/
theorem fin_pure {v v' : AV} {h : Heap} (e : v = v') (c : IdLt 0 v') : fin (Back 0 (fun e h' => e = .ret v' ∧ h' = []) (.ret v) h) := fin_mk (back_pure [] (.eq e c) ⟨rfl, rfl⟩)
theorem fin_rs {v v' : AV} {h : Heap} (F : List Nat) (e : Rs h [] F v v') : fin (Back 0 (fun e h' => e = .ret v' ∧ h' = []) (.ret v) h) := fin_mk (back_pure F e ⟨rfl, rfl⟩)

end Go.Proofs.Ytiionlbepecmjaa.AL
