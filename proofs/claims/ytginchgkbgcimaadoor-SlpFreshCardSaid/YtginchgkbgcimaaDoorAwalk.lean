/- The walk's words: lists of elements, side conditions, ends. -/
import Derived.Test.YtginchgkbgcimaaDoorAuse
namespace Go.Proofs.YtginchgkbgcimaaDoor.AL
open Go Go.RowKit

/-- A list's element. -/
def gt {α : Type} [Inhabited α] (l : List α) (n : Nat) : α := l.getD n default
theorem gt_eq {α : Type} [Inhabited α] {l : List α} {n : Nat} (h : n < l.length) : gt l n = l[n] := by simp [gt, h]
theorem gt_some {α : Type} [Inhabited α] {l : List α} {n : Nat} (h : n < l.length) : l[n]? = some (gt l n) := by simp [gt, h]
theorem gt_mem {α : Type} [Inhabited α] {l : List α} {n : Nat} (h : n < l.length) : gt l n ∈ l := by rw [gt_eq h]; exact List.getElem_mem h

theorem wfoc_map {α : Type} [Inhabited α] {f : α → AV} {l : List α} {n : Nat} {K : List AV → Prop} (hn : n < l.length) (k : K [f (gt l n)]) : wfoc (l.map f) n 1 K := by
  refine ⟨by simp; omega, ?_⟩
  have : ((l.map f).drop (n * 1)).take 1 = [f (gt l n)] := by
    rw [Nat.mul_one, ← List.map_drop, ← List.map_take, List.drop_eq_getElem_cons hn, gt_eq hn]; rfl
  rw [this]; exact k
theorem wfoc_mapc {α : Type} [Inhabited α] {f : α → AV} {l : List α} {n : Nat} {K : List AV → Prop} (hn : n < l.length) (k : K [f (gt l n)]) : wfoc (l.map f) (Int.toNat (n : Int)) 1 K := wfoc_map hn k

theorem flat_len {α : Type} {enc : α → List AV} {s : Nat} (he : ∀ x, (enc x).length = s) (l : List α) : (l.flatMap enc).length = l.length * s := by
  induction l with
  | nil => simp
  | cons x l ih => simp [he, ih, Nat.add_mul, Nat.add_comm]
theorem flat_drop {α : Type} {enc : α → List AV} {s : Nat} (he : ∀ x, (enc x).length = s) (l : List α) (n : Nat) : (l.flatMap enc).drop (n * s) = (l.drop n).flatMap enc := by
  induction n generalizing l with
  | zero => simp
  | succ n ih =>
    cases l with
    | nil => simp
    | cons x l =>
      rw [Nat.add_mul, Nat.one_mul, List.flatMap_cons, List.drop_append, List.drop_of_length_le (by rw [he]; omega), he, Nat.add_sub_cancel, List.nil_append, List.drop_succ_cons, ih]
theorem flat_take {α : Type} {enc : α → List AV} {s : Nat} (he : ∀ x, (enc x).length = s) (l : List α) (n : Nat) : (l.flatMap enc).take (n * s) = (l.take n).flatMap enc := by
  induction n generalizing l with
  | zero => simp
  | succ n ih =>
    cases l with
    | nil => simp
    | cons x l =>
      rw [Nat.add_mul, Nat.one_mul, List.flatMap_cons, List.take_append, List.take_of_length_le (by rw [he]; omega), he, Nat.add_sub_cancel, List.take_succ_cons, List.flatMap_cons, ih]
theorem wfoc_flat {α : Type} [Inhabited α] {l : List α} {enc : α → List AV} {s n : Nat} {K : List AV → Prop} (he : ∀ x, (enc x).length = s) (hn : n < l.length) (k : K (enc (gt l n))) : wfoc (l.flatMap enc) n s K := by
  refine ⟨?_, ?_⟩
  · rw [flat_len he]; have : (n + 1) * s ≤ l.length * s := Nat.mul_le_mul_right _ hn; rw [Nat.add_mul] at this; omega
  · rw [flat_drop he, List.drop_eq_getElem_cons hn, List.flatMap_cons, List.take_append, List.take_of_length_le (by rw [he]; omega), he, Nat.sub_self, List.take_zero, List.append_nil, ← gt_eq hn]; exact k
theorem wfoc_flatc {α : Type} [Inhabited α] {l : List α} {enc : α → List AV} {s n : Nat} {K : List AV → Prop} (he : ∀ x, (enc x).length = s) (hn : n < l.length) (k : K (enc (gt l n))) : wfoc (l.flatMap enc) (Int.toNat (n : Int)) s K := wfoc_flat he hn k
theorem wfoc_lit {cs ys : List AV} {n s : Nat} {K : List AV → Prop} (h : n * s + s ≤ cs.length) (e : (cs.drop (n * s)).take s = ys) (k : K ys) : wfoc cs n s K := ⟨h, by rw [e]; exact k⟩

theorem wald_map {α : Type} [Inhabited α] {f : α → AV} {l : List α} {n : Nat} {K : AV → Prop} (hn : n < l.length) (k : K (f (gt l n))) : wald (l.map f) 0 n 1 0 none K := by
  refine ⟨?_⟩
  have : (l.map f)[0 + n * 1 + 0]? = some (f (gt l n)) := by simp [gt_some hn]
  simp only [vcLoadC, this]; exact k
theorem wald_mapc {α : Type} [Inhabited α] {f : α → AV} {l : List α} {n : Nat} {K : AV → Prop} (hn : n < l.length) (k : K (f (gt l n))) : wald (l.map f) 0 (Int.toNat (n : Int)) 1 0 none K := wald_map hn k
theorem wast_map {α : Type} {f : α → AV} {l : List α} {n : Nat} {y : α} {K : List AV → Prop} (hc : (f y).isCell = true) (hl : (f y).cellList = [f y]) (hn : n < l.length) (k : K ((l.set n y).map f)) : wast (l.map f) 0 n 1 0 1 (f y) K := by
  refine ⟨req_mk ?_ ?_⟩
  · simp [hl, hc]; omega
  · simp only [hl, setMany, Nat.zero_add, Nat.mul_one, Nat.add_zero]
    rw [← List.map_set]; exact k
theorem wast_mapc {α : Type} {f : α → AV} {l : List α} {n : Nat} {y : α} {K : List AV → Prop} (hc : (f y).isCell = true) (hl : (f y).cellList = [f y]) (hn : n < l.length) (k : K ((l.set n y).map f)) : wast (l.map f) 0 (Int.toNat (n : Int)) 1 0 1 (f y) K := wast_map hc hl hn k
theorem wcut_map {α : Type} {f : α → AV} {l : List α} {a n : Nat} {K : List AV → Prop} (k : K (((l.drop a).take n).map f)) : wcut (l.map f) a n K := ⟨by rw [← List.map_drop, ← List.map_take]; exact k⟩
theorem wcat_maps {α : Type} {f : α → AV} {l r : List α} {m : Nat} {K : List AV → Prop} (h : m = l.length) (k : K ((l ++ r).map f)) : wcat (l.map f) 0 m (r.map f) K := ⟨by rw [List.drop_zero, List.take_of_length_le (by simp; omega), ← List.map_append]; exact k⟩
theorem wcut_all {cs : List AV} {n : Nat} {K : List AV → Prop} (h : cs.length = n) (k : K cs) : wcut cs 0 n K := ⟨by rw [List.drop_zero, List.take_of_length_le (by omega)]; exact k⟩
theorem wcat_map {α : Type} {f : α → AV} {l : List α} {y : α} {K : List AV → Prop} {m : Nat} (h : l.length = m) (k : K ((l ++ [y]).map f)) : wcat (l.map f) 0 m [f y] K :=
  ⟨by rw [List.drop_zero, List.take_of_length_le (by simp; omega)]; rw [List.map_append] at k; exact k⟩
theorem wald_lit {cs : List AV} {k j s o : Nat} {v : AV} {K : AV → Prop} (e : cs[k + j * s + o]? = some v) (q : K v) : wald cs k j s o none K := ⟨by simp only [vcLoadC, e]; exact q⟩
theorem wast_lit {cs : List AV} {k j s o n : Nat} {v : AV} {K : List AV → Prop} (e : ((v.cellList.length == n) && v.cellList.all AV.isCell && decide (k + j * s + o + n ≤ cs.length)) = true) (q : K (setMany cs (k + j * s + o) v.cellList)) : wast cs k j s o n v K := ⟨req_mk e q⟩
theorem wcut_lit {cs : List AV} {k n : Nat} {K : List AV → Prop} (q : forceL ((cs.drop k).take n) K) : wcut cs k n K := ⟨by rw [forceL_eq] at q; exact q⟩
theorem wcat_lit {cs ys new : List AV} {k n : Nat} {K : List AV → Prop} (e : (cs.drop k).take n ++ new = ys) (q : K ys) : wcat cs k n new K := ⟨by rw [e]; exact q⟩
theorem repl_one (n : Nat) (z : AV) : repl n [z] = List.replicate n z := by
  unfold repl
  induction n with
  | zero => rfl
  | succ n ih => rw [List.replicate_succ, List.flatten_cons, ih]; rfl
theorem wrep_map {α : Type} {f : α → AV} {x0 : α} {n : Nat} {K : List AV → Prop} (k : K ((List.replicate n x0).map f)) : wrep n [f x0] K := ⟨by rw [repl_one]; rw [List.map_replicate] at k; exact k⟩
theorem wrep_int {kd : IntKind} {z : Int} {n : Nat} {K : List AV → Prop} (k : K ((List.replicate n z).map (AV.int kd))) : wrep n [.int kd z] K := wrep_map k
theorem wrep_bool {z : Bool} {n : Nat} {K : List AV → Prop} (k : K ((List.replicate n z).map AV.bool)) : wrep n [.bool z] K := wrep_map k
theorem wrep_mk {zs : List AV} {n : Nat} {K : List AV → Prop} (k : K (repl n zs)) : wrep n zs K := ⟨k⟩
/-- The end of a list laid anew. -/
theorem setMany_tail (a b new : List AV) (h : new.length = b.length) : setMany (a ++ b) a.length new = a ++ new := by
  rw [setMany_append _ _ _ (by omega), List.drop_of_length_le (by omega), List.append_nil]
theorem wput_tail {α : Type} {f : α → AV} {l l2 : List α} {p : Nat} {K : List AV → Prop} (hp : p ≤ l.length) (h : l2.length = l.length - p) (k : K ((l.take p ++ l2).map f)) : wput (l.map f) p (l2.map f) K := by
  refine ⟨by simp; omega, ?_⟩
  have : setMany (l.map f) p (l2.map f) = (l.take p ++ l2).map f := by
    have e : l.map f = (l.take p).map f ++ (l.drop p).map f := by rw [← List.map_append, List.take_append_drop]
    rw [e]
    have hp' : p = ((l.take p).map f).length := by simp; omega
    conv => lhs; arg 2; rw [hp']
    rw [setMany_tail _ _ _ (by simp [h]), List.map_append]
  rw [this]; exact k
theorem wput_tailE {α : Type} {f : α → AV} {l : List α} (l2 : List α) (k : Nat) {p : Nat} {new : List AV} {K : List AV → Prop} (hp : p = k) (hk : k ≤ l.length) (hn : new = l2.map f) (h : l2.length = l.length - k) (q : K ((l.take k ++ l2).map f)) : wput (l.map f) p new K := by
  subst hp; subst hn; exact wput_tail hk h q
theorem repl_map {α : Type} {f : α → AV} {z : α} {n m : Nat} (h : n = m) : repl n [f z] = (List.replicate m z).map f := by rw [repl_one, h, List.map_replicate]
theorem ask_mk {p q : Prop} (h : p) (k : q) : ask p q := ⟨h, k⟩

theorem wrap_u64 {n : Int} (h0 : 0 ≤ n) (h1 : n < 18446744073709551616) : IntKind.u64.wrap n = n := by
  simp [IntKind.wrap, IntKind.bits, IntKind.signed]; omega
theorem wrap_u8 {n : Int} (h0 : 0 ≤ n) (h1 : n < 256) : IntKind.u8.wrap n = n := by
  simp [IntKind.wrap, IntKind.bits, IntKind.signed]; omega

theorem Rs.eq {h : Heap} {N F : List Nat} {x y : AV} (e : x = y) (hx : IdLt 0 y) : Rs h N F x y := by subst e; exact .same _ hx
theorem Rs.int_eq {h : Heap} {N F : List Nat} {k : IntKind} {a b : Int} (e : a = b) : Rs h N F (.int k a) (.int k b) := by subst e; exact .same _ (.int _ _)
theorem Rs.bool_eq {h : Heap} {N F : List Nat} {a b : Bool} (e : a = b) : Rs h N F (.bool a) (.bool b) := by subst e; exact .same _ (.bool _)
theorem Rs.str_eq {h : Heap} {N F : List Nat} {a b : ByteArray} (e : a = b) : Rs h N F (.str a) (.str b) := by subst e; exact .same _ (.str _)

/-- Bounds of numbers of 64 bits. -/
def I64 (n : Int) : Prop := -9223372036854775808 ≤ n ∧ n ≤ 9223372036854775807
theorem Wk.cons {x y : AV} {xs ys : List AV} (h : x = y) (k : Wk xs ys) : Wk (x :: xs) (y :: ys) := ⟨.inr h, k⟩
theorem Wk.wild {x : AV} {xs ys : List AV} (k : Wk xs ys) : Wk (x :: xs) (.wild :: ys) := ⟨.inl rfl, k⟩
theorem Wk.nil : Wk [] [] := trivial

theorem bcase_true {b : Bool} {A B : Prop} (h : b = true) (k : A) : bcase b A B := by subst h; exact k
theorem bcase_false {b : Bool} {A B : Prop} (h : b = false) (k : B) : bcase b A B := by subst h; exact k
theorem bcase_dt {p : Prop} [Decidable p] {A B : Prop} (h : p) (k : A) : bcase (decide p) A B := bcase_true (decide_eq_true h) k
theorem bcase_df {p : Prop} [Decidable p] {A B : Prop} (h : ¬ p) (k : B) : bcase (decide p) A B := bcase_false (decide_eq_false h) k
theorem bcase_et {a b : Int} {A B : Prop} (h : a = b) (k : A) : bcase (a == b) A B := bcase_true (by simpa using h) k
theorem bcase_ef {a b : Int} {A B : Prop} (h : a ≠ b) (k : B) : bcase (a == b) A B := bcase_false (by simpa using h) k
theorem bcase_nt {a b : Int} {A B : Prop} (h : a ≠ b) (k : A) : bcase (a != b) A B := bcase_true (by simpa using h) k
theorem bcase_nf {a b : Int} {A B : Prop} (h : a = b) (k : B) : bcase (a != b) A B := bcase_false (by simpa using h) k
theorem bcase_nbeq {a b : Nat} {A B : Prop} (h : a = b → A) (k : a ≠ b → B) : bcase (a == b) A B := bcase_mk (fun e => h (by simpa using e)) (fun e => k (by simpa using e))

theorem wnum_mk {k : IntKind} {n : Int} {K : Int → Prop} (q : K (k.wrap n)) : wnum k n K := ⟨q⟩
theorem wnum_i64 {n : Int} {K : Int → Prop} (h : -9223372036854775808 ≤ n ∧ n ≤ 9223372036854775807) (q : K n) : wnum .i64 n K := ⟨by rw [wrap_i64 (by omega) (by omega)]; exact q⟩
theorem wnum_u64 {n : Int} {K : Int → Prop} (h : 0 ≤ n ∧ n ≤ 18446744073709551615) (q : K n) : wnum .u64 n K := ⟨by rw [wrap_u64 (by omega) (by omega)]; exact q⟩
theorem wnum_u8 {n : Int} {K : Int → Prop} (h : 0 ≤ n ∧ n ≤ 255) (q : K n) : wnum .u8 n K := ⟨by rw [wrap_u8 (by omega) (by omega)]; exact q⟩
theorem wnum_byU {c : UInt8} {K : Int → Prop} (q : K c.toNat) : wnum .u64 (c.toNat : Int) K := wnum_u64 (by have := c.toNat_lt; omega) q
theorem wnum_byI {c : UInt8} {K : Int → Prop} (q : K c.toNat) : wnum .i64 (c.toNat : Int) K := wnum_i64 (by have := c.toNat_lt; omega) q
theorem wnum_byB {c : UInt8} {K : Int → Prop} (q : K c.toNat) : wnum .u8 (c.toNat : Int) K := wnum_u8 (by have := c.toNat_lt; omega) q
theorem wquo_nn {k : IntKind} {a b : Int} {K : Int → Prop} (h : 0 ≤ a ∧ 0 < b) (hk : k.wrap (a / b) = a / b) (q : K (a / b)) : wquo k a b K :=
  ⟨by omega, by rw [Int.tdiv_eq_ediv_of_nonneg h.1, hk]; exact q⟩
theorem wrem_nn {a b : Int} {K : Int → Prop} (h : 0 ≤ a ∧ 0 < b) (q : K (a % b)) : wrem a b K := ⟨by omega, by rw [Int.tmod_eq_emod_of_nonneg h.1]; exact q⟩

/-- A pure function's end. -/
theorem fin_pure {v v' : AV} {h : Heap} (e : v = v') (c : IdLt 0 v') : fin (Back 0 (fun e h' => e = .ret v' ∧ h' = []) (.ret v) h) := fin_mk (back_pure [] (.eq e c) ⟨rfl, rfl⟩)
theorem fin_rs {v v' : AV} {h : Heap} (F : List Nat) (e : Rs h [] F v v') : fin (Back 0 (fun e h' => e = .ret v' ∧ h' = []) (.ret v) h) := fin_mk (back_pure F e ⟨rfl, rfl⟩)

/-! ### lists of numbers, read only -/
abbrev i64s (l : List Int) : AV := .islice false l.length (l.map (AV.int .i64))
abbrev u64s (l : List Int) : AV := .islice false l.length (l.map (AV.int .u64))
abbrev byt (b : UInt8) : AV := .int .u8 b.toNat
abbrev u8s (l : List UInt8) : AV := .islice false l.length (l.map byt)
@[simp] theorem idLt_map {α : Type} {n : Nat} {f : α → AV} {l : List α} : (∀ x ∈ l.map f, IdLt n x) ↔ ∀ a ∈ l, IdLt n (f a) := by simp
theorem idLt_mapI {α : Type} {k m : Nat} {ex : Bool} {f : α → AV} {l : List α} (h : ∀ a, IdLt k (f a)) : IdLt k (.islice ex m (l.map f)) := by simp [h]
theorem drop_gt {α : Type} [Inhabited α] {l : List α} {j : Nat} (h : j < l.length) : l.drop j = gt l j :: l.drop (j + 1) := by rw [List.drop_eq_getElem_cons h, gt_eq h]
theorem take_gt {α : Type} [Inhabited α] {l : List α} {j : Nat} (h : j < l.length) : l.take (j + 1) = l.take j ++ [gt l j] := by rw [List.take_succ_eq_append_getElem h, gt_eq h]
/-- A list of the call's own, whole. -/
theorem rs_slice {h : Heap} {N F : List Nat} {i n cap : Nat} {cs : List AV} {opn : Option Nat} {α : Type} {f : α → AV} {l : List α} (hi : i ∈ F) (h1 : h[i]? = some (.cells cs opn)) (e : cs = l.map f) (hn : n = l.length) (hc : ∀ a ∈ l, IdLt 0 (f a)) : Rs h N F (.slice i 0 n cap) (.islice false l.length (l.map f)) := by
  subst e; subst hn
  have := Rs.fsliceL (N := N) (k := 0) (len := l.length) (cap := cap) (m := l.length) (ds := l.map f) hi (.inl h1) (by simp) (by rw [List.drop_zero, List.take_of_length_le (by simp)]; exact .same (by simpa using hc)) (by cases l <;> simp [Real])
  exact this

theorem fin_nle {a b : Nat} (h : a ≤ b) : fin (a ≤ b) := fin_mk h
theorem fin_nat {a b : Nat} (h : a = b) : fin (a = b) := fin_mk h
/-- The head of a list of the call's own. -/
theorem rs_slice_pre {h : Heap} {N F : List Nat} {i n cap : Nat} {cs : List AV} {opn : Option Nat} {α : Type} {f : α → AV} {l r : List α} (hi : i ∈ F) (h1 : h[i]? = some (.cells cs opn)) (e : cs = (l ++ r).map f) (hn : n = l.length) (hc : ∀ a ∈ l, IdLt 0 (f a)) : Rs h N F (.slice i 0 n cap) (.islice false l.length (l.map f)) := by
  subst e; subst hn
  have := Rs.fsliceL (N := N) (k := 0) (len := l.length) (cap := cap) (m := l.length) (ds := l.map f) hi (.inl h1) (by simp) (by rw [List.drop_zero, List.map_append, List.take_left' (by simp)]; exact .same (by simpa using hc)) (by cases l <;> simp [Real])
  exact this

theorem wput_whole {α : Type} {f : α → AV} {l : List α} (l2 : List α) {p : Nat} {new : List AV} {K : List AV → Prop} (hp : p = 0) (hn : new = l2.map f) (h : l2.length = l.length) (q : K (l2.map f)) : wput (l.map f) p new K := by
  subst hp; subst hn
  exact wput_tail (Nat.zero_le _) (by omega) (by simpa using q)
theorem rs_nilM {h : Heap} {N F : List Nat} {α : Type} {f : α → AV} {l : List α} (e : l = []) : Rs h N F (.lit (.slice none 0 0)) (.islice false l.length (l.map f)) := by subst e; exact .nil false
theorem rs_nil {h : Heap} {N F : List Nat} {l : List Int} (e : l = []) : Rs h N F (.lit (.slice none 0 0)) (i64s l) := by subst e; exact .nil false

theorem rs_fnL {h : Heap} {N F : List Nat} {f : Fn} {as bs cs ds : List AV} (ra : RsL h N F as bs) (rc : RsL h N F cs ds) : Rs h N F (.fn f as cs) (.fn f bs ds) := .fn _ _ _ _ _ ra.len ra.at_ rc.len rc.at_
/-- A list that is read only, whatever its room. -/
theorem rs_isl {h : Heap} {N F : List Nat} {α : Type} {f : α → AV} {ex : Bool} {n : Nat} {l : List α} (hc : ∀ a, IdLt 0 (f a)) (hn : n = l.length) : Rs h N F (.islice ex n (l.map f)) (.islice false l.length (l.map f)) := by
  subst hn
  refine .islice _ _ _ _ _ (fun q => by cases q) rfl ?_
  intro j x y h1 h2
  rw [h1] at h2; cases h2
  obtain ⟨a, _, rfl⟩ := List.mem_map.1 (List.mem_of_getElem? h1)
  exact .same _ (hc a)
/-- The head of a list that is read only; its tail. -/
theorem wcut_tk {α : Type} {f : α → AV} {l : List α} (n : Nat) {a b : Nat} {K : List AV → Prop} (ha : a = 0) (hb : b = n) (q : K ((l.take n).map f)) : wcut (l.map f) a b K := wcut_map (by subst ha; subst hb; simpa using q)
theorem wcut_dr {α : Type} {f : α → AV} {l : List α} (m : Nat) {a b : Nat} {K : List AV → Prop} (ha : a = m) (hb : l.length ≤ m + b) (q : K ((l.drop m).map f)) : wcut (l.map f) a b K := wcut_map (by subst ha; rw [List.take_of_length_le (by simp; omega)]; exact q)
theorem wcut_md {α : Type} {f : α → AV} {l : List α} (m n : Nat) {a b : Nat} {K : List AV → Prop} (ha : a = m) (hb : b = n) (q : K (((l.drop m).take n).map f)) : wcut (l.map f) a b K := wcut_map (by subst ha; subst hb; exact q)
/-- A list that is filled from its head on. -/
def fillL {α : Type} (f : Nat → α) (z : α) (i n : Nat) : List α := (List.range n).map fun j => if j < i then f j else z
theorem fillL_length {α : Type} (f : Nat → α) (z : α) (i n : Nat) : (fillL f z i n).length = n := by simp [fillL]
theorem fillL_zero {α : Type} (f : Nat → α) (z : α) (n : Nat) : fillL f z 0 n = List.replicate n z := by
  apply List.ext_getElem?
  intro j
  simp only [fillL, List.getElem?_map, List.getElem?_replicate]
  by_cases h : j < n <;> simp [h]
theorem fillL_full {α : Type} (f : Nat → α) (z : α) (n : Nat) : fillL f z n n = (List.range n).map f := by
  unfold fillL
  refine List.map_congr_left fun j hj => ?_
  rw [if_pos (List.mem_range.1 hj)]
theorem fillL_set {α : Type} (f : Nat → α) (z : α) (i n : Nat) : (fillL f z i n).set i (f i) = fillL f z (i + 1) n := by
  apply List.ext_getElem?
  intro j
  rw [List.getElem?_set]
  simp only [fillL, List.getElem?_map, List.length_map, List.length_range]
  by_cases e : i = j
  · subst e
    by_cases h : i < n <;> simp [h]
  · by_cases h : j < n
    · simp [e, h]
      have : (j < i) ↔ (j < i + 1) := by omega
      simp [this]
    · simp [e, h]
theorem gt_fillL {α : Type} [Inhabited α] (f : Nat → α) (z : α) (i n j : Nat) (h : j < n) : gt (fillL f z i n) j = if j < i then f j else z := by
  simp [gt, fillL, h]
theorem gt_app {α : Type} [Inhabited α] (a b : List α) (j : Nat) : gt (a ++ b) j = if j < a.length then gt a j else gt b (j - a.length) := by
  unfold gt
  simp only [List.getD_eq_getElem?_getD, List.getElem?_append]
  split <;> rfl
theorem gt_drop {α : Type} [Inhabited α] (l : List α) (k j : Nat) : gt (l.drop k) j = gt l (k + j) := by simp [gt]

/-! ### ends of functions that are handed objects -/
theorem RsL.of_eq {h : Heap} {N F : List Nat} {cs ds : List AV} (e : cs = ds) (c : ∀ x ∈ ds, IdLt 0 x) : RsL h N F cs ds := by subst e; exact .same c
theorem objR_cells {h : Heap} {N F : List Nat} {i : Nat} {cs ds : List AV} {op : Option Nat} (hF : i ∉ F) (hi : h[i]? = some (.cells cs op)) (r : RsL h N F cs ds) : ObjR h N F i (.cells ds op) := .inr ⟨hF, cs, hi, r⟩
theorem objR_vac {h : Heap} {N F : List Nat} {i y : Nat} {x : Option Nat} (hi : h[i]? = some (.cells [] x)) : ObjR h N F i (.cells [] (some y)) := .inl ⟨(fun q => q.elim (fun q => q rfl) (fun q => by cases q)), _, hi⟩
/-- The same cells, which lead to no object. -/
theorem objR_same {h : Heap} {N F : List Nat} {i : Nat} {cs ds : List AV} {op : Option Nat} (hF : i ∉ F) (hi : h[i]? = some (.cells cs op)) (e : cs = ds) (c : ∀ x ∈ ds, IdLt 0 x) : ObjR h N F i (.cells ds op) := .inr ⟨hF, cs, hi, .of_eq e c⟩
theorem fin_1 {v v' : AV} {h : Heap} {o1 : AObj} (F : List Nat) (hv : Rs h [0] F v v') (h1 : ObjR h [0] F 0 o1) : fin (Back 1 (fun e h' => e = .ret v' ∧ h' = [o1]) (.ret v) h) :=
  fin_mk (.mk' ⟨[0], F, .ret v', [o1], hv, ⟨h1, trivial⟩, by simp, fun j hj => by match j, hj with | 0, _ => rfl, rfl, rfl⟩)
theorem fin_2 {v v' : AV} {h : Heap} {o1 o2 : AObj} (F : List Nat) (hv : Rs h [0, 1] F v v') (h1 : ObjR h [0, 1] F 0 o1) (h2 : ObjR h [0, 1] F 1 o2) : fin (Back 2 (fun e h' => e = .ret v' ∧ h' = [o1, o2]) (.ret v) h) :=
  fin_mk (.mk' ⟨[0, 1], F, .ret v', [o1, o2], hv, ⟨h1, h2, trivial⟩, by simp, fun j hj => by match j, hj with | 0, _ => rfl | 1, _ => rfl, rfl, rfl⟩)
theorem fin_3 {v v' : AV} {h : Heap} {o1 o2 o3 : AObj} (F : List Nat) (hv : Rs h [0, 1, 2] F v v') (h1 : ObjR h [0, 1, 2] F 0 o1) (h2 : ObjR h [0, 1, 2] F 1 o2) (h3 : ObjR h [0, 1, 2] F 2 o3) : fin (Back 3 (fun e h' => e = .ret v' ∧ h' = [o1, o2, o3]) (.ret v) h) :=
  fin_mk (.mk' ⟨[0, 1, 2], F, .ret v', [o1, o2, o3], hv, ⟨h1, h2, h3, trivial⟩, by simp, fun j hj => by match j, hj with | 0, _ => rfl | 1, _ => rfl | 2, _ => rfl, rfl, rfl⟩)

/-! ### a list of the call's own that grows at its end: none at first, later the object i -/
def ownV {α : Type} (i : Nat) (l : List α) : AV := if l = [] then .lit (.slice none 0 0) else .slice i 0 l.length l.length
def ownO {α : Type} (f : α → AV) (sz : Nat) (l : List α) : List AObj := if l = [] then [] else [.cells (l.map f) (some sz)]
theorem ownV_nil {α : Type} (i : Nat) : ownV i ([] : List α) = .lit (.slice none 0 0) := rfl
theorem ownO_nil {α : Type} (f : α → AV) (sz : Nat) : ownO f sz [] = [] := rfl
theorem ownV_ne {α : Type} {i : Nat} {l : List α} (h : l ≠ []) : ownV i l = .slice i 0 l.length l.length := if_neg h
theorem ownO_ne {α : Type} {f : α → AV} {sz : Nat} {l : List α} (h : l ≠ []) : ownO f sz l = [.cells (l.map f) (some sz)] := if_neg h
theorem ownV_snoc {α : Type} {i : Nat} {l : List α} {x : α} : ownV i (l ++ [x]) = .slice i 0 (l.length + 1) (l.length + 1) := by rw [ownV_ne (by simp), List.length_append]; rfl
theorem ownO_snoc {α : Type} {f : α → AV} {sz : Nat} {l : List α} {x : α} : ownO f sz (l ++ [x]) = [.cells ((l ++ [x]).map f) (some sz)] := ownO_ne (by simp)
theorem Rs.slice_eq {h : Heap} {N F : List Nat} {i j k l c k' l' c' : Nat} (hn : N[j]? = some i) (e1 : k = k') (e2 : l = l') (e3 : c = c') : Rs h N F (.slice i k l c) (.slice j k' l' c') := by subst e1; subst e2; subst e3; exact .slice _ _ _ _ _ hn

theorem fin_hb {P : Program} {n : Nat} (h : hasBody P n = true) : fin (hasBody P n = true) := fin_mk h

end Go.Proofs.YtginchgkbgcimaaDoor.AL
