/- Layer 21: states of nets. -/
import Derived.Test.YtapgnmigpfcdfaaNetA
namespace Go.Proofs.Ytapgnmigpfcdfaa.C
open Go Go.RowKit Go.Proofs.Ytapgnmigpfcdfaa.AL

/-- A packet under way. -/
structure Pkt where
  a : Int
  b : Int
  bs : List UInt8
  deriving Inhabited
abbrev Pkt.enc (p : Pkt) : List AV := [.int .i64 p.a, .int .i64 p.b, u8s p.bs]
/-- A packet that a net of n nodes may carry. -/
def Pkt.ok (n : Int) (p : Pkt) : Prop := p.bs.length ≤ 1048576 ∧ (0 ≤ p.a ∧ p.a < n) ∧ (0 ≤ p.b ∧ p.b < n)
/-- A call of a script. -/
structure NOp where
  c : Int
  a : Int
  b : Int
  bs : List UInt8
  deriving Inhabited
abbrev NOp.enc (o : NOp) : List AV := [.int .u8 o.c, .int .i64 o.a, .int .i64 o.b, u8s o.bs]
abbrev nops (l : List NOp) : AV := .islice false l.length (l.flatMap NOp.enc)

/-- A list of packets as it lies in a net: its slice, its array (t: what lies behind the list). -/
def slV (i : Nat) (L : List Pkt) : AV := if L = [] then .islice true 0 [] else .slice i 0 L.length L.length
abbrev wilds (t : Nat) : List AV := List.replicate t .wild
def arO (L : List Pkt) (t : Nat) : AObj := if L = [] then .dead else .cells (L.flatMap Pkt.enc ++ wilds t) (some 3)
theorem slV_nil (i : Nat) : slV i [] = .islice true 0 [] := rfl
theorem arO_nil (t : Nat) : arO [] t = .dead := rfl
theorem slV_ne {i : Nat} {L : List Pkt} (h : L ≠ []) : slV i L = .slice i 0 L.length L.length := if_neg h
theorem arO_ne {L : List Pkt} {t : Nat} (h : L ≠ []) : arO L t = .cells (L.flatMap Pkt.enc ++ wilds t) (some 3) := if_neg h
theorem ne_snoc (L : List Pkt) (p : Pkt) : L ++ [p] ≠ [] := by simp

abbrev pks (L : List Pkt) : AV := .islice false L.length (L.flatMap Pkt.enc)
theorem slV_snoc (i : Nat) (L : List Pkt) (p : Pkt) : slV i (L ++ [p]) = .slice i 0 (L.length + 1) (L.length + 1) := by rw [slV_ne (by simp)]; simp
theorem arO_snoc (L : List Pkt) (p : Pkt) : arO (L ++ [p]) 0 = .cells (L.flatMap Pkt.enc ++ p.enc) (some 3) := by rw [arO_ne (by simp)]; simp [List.flatMap_append]
theorem rs_pks {h : Heap} {N F : List Nat} {i n cap : Nat} {t : List AV} {op : Option Nat} {L : List Pkt} (hi : i ∈ F) (h1 : h[i]? = some (.cells (L.flatMap Pkt.enc ++ t) op)) (hn : n = L.length) : Rs h N F (.slice i 0 n cap) (pks L) := by
  subst hn
  have hl := flat_len (enc := Pkt.enc) (s := 3) (by intro _; rfl) L
  refine Rs.fsliceL (k := 0) (m := (L.flatMap Pkt.enc).length) hi (.inl h1) (by simp) ?_
  rw [List.drop_zero, List.take_left']
  · refine .same fun x hx => ?_
    obtain ⟨p, _, hp⟩ := List.mem_flatMap.1 hx
    simp at hp
    rcases hp with rfl | rfl | rfl <;> simp
  · rfl

theorem rsl_flat0 {h : Heap} {N F : List Nat} {cs : List AV} {L : List Pkt} (hc : ∀ a ∈ L, ∀ x ∈ a.enc, IdLt 0 x) (e : cs = L.flatMap Pkt.enc) : RsL h N F cs (L.flatMap Pkt.enc ++ wilds 0) := by
  rw [show wilds 0 = [] from rfl, List.append_nil]; exact rsl_flat hc e

theorem rs_slV {h : Heap} {N F : List Nat} {i j : Nat} {L : List Pkt} (hn : N[j]? = some i) : Rs h N F (slV i L) (slV j L) := by
  by_cases hL : L = []
  · subst hL; exact .same _ (by simp [slV_nil])
  · rw [slV_ne hL, slV_ne hL]; exact .slice _ _ _ _ _ hn
theorem isCells_fl (M : List Pkt) : (M.flatMap Pkt.enc).all AV.isCell = true := by
  rw [List.all_eq_true]
  intro x hx
  obtain ⟨p, _, hp⟩ := List.mem_flatMap.1 hx
  simp at hp
  rcases hp with rfl | rfl | rfl <;> rfl

theorem rs_ex0 {h : Heap} {N F : List Nat} : Rs h N F (.islice true 0 []) (.islice false 0 []) := .islice _ _ _ _ _ (fun q => by cases q) rfl (by intro j x y q; simp at q)
theorem objR_arO {h : Heap} {N F : List Nat} {i t : Nat} {L : List Pkt} (hF : i ∉ F) (h1 : h[i]? = some (arO L t)) : ObjR h N F i (arO L t) := by
  by_cases hL : L = []
  · subst hL; exact (List.getElem?_eq_some_iff.1 h1).1
  · rw [arO_ne hL] at h1 ⊢
    exact objR_cells hF h1 (.append (rsl_flat (by intro a _; simp) rfl) (.wilds (by simp)))

/-- A net's numbers: nodes, sent, delivered, dropped. -/
structure NN where
  n : Int
  s : Int
  d : Int
  l : Int
abbrev NN.cs (N : NN) (i : Nat) (L : List Pkt) : List AV := [.int .i64 N.n, slV i L, .int .i64 N.s, .int .i64 N.d, .int .i64 N.l]

/-- May it be sent? -/
def NN.ok (N : NN) (L : List Pkt) (a b : Int) (bs : List UInt8) : Prop := (0 ≤ a ∧ a < N.n) ∧ (0 ≤ b ∧ b < N.n) ∧ L.length < 4096 ∧ bs.length ≤ 1048576

/-- A packet moved from a place to a place. -/
def mov (L : List Pkt) (i j : Nat) : List Pkt := (L.eraseIdx i).take j ++ [gt L i] ++ (L.eraseIdx i).drop j
theorem mov_length {L : List Pkt} {i j : Nat} (hi : i < L.length) (hj : j < L.length) : (mov L i j).length = L.length := by
  simp [mov, List.length_eraseIdx, hi]; omega
theorem gt_mov {L : List Pkt} {i j k : Nat} (hi : i < L.length) (hj : j < L.length) : gt (mov L i j) k = if k = j then gt L i else if k < j then (if k < i then gt L k else gt L (k + 1)) else (if k - 1 < i then gt L (k - 1) else gt L k) := by
  have he : (L.eraseIdx i).length = L.length - 1 := by rw [List.length_eraseIdx, if_pos hi]
  have hl : ((L.eraseIdx i).take j).length = j := by rw [List.length_take]; omega
  unfold mov
  simp only [gt_app, hl, List.length_append, List.length_singleton, gt_take', gt_erase, gt_drop, gt_cons]
  repeat' split
  all_goals first | rfl | (exfalso; omega) | (congr 1; omega)
theorem mem_mov {L : List Pkt} {i j : Nat} (hi : i < L.length) {p : Pkt} (h : p ∈ mov L i j) : p ∈ L := by
  simp only [mov, List.mem_append, List.mem_singleton] at h
  rcases h with (h | rfl) | h
  · exact List.mem_of_mem_eraseIdx (List.mem_of_mem_take h)
  · exact gt_mem hi
  · exact List.mem_of_mem_eraseIdx (List.mem_of_mem_drop h)
theorem mov_ne {L : List Pkt} {i j : Nat} : mov L i j ≠ [] := by simp [mov]
/-- The same, as package net does it: the packets between moved by one. -/
theorem mov_up {L : List Pkt} {i j : Nat} (hj : j < L.length) (h : i < j) : (L.take i ++ (L.drop (i + 1)).take (j - i) ++ L.drop (i + ((L.drop (i + 1)).take (j - i)).length)).set j (gt L i) = mov L i j := by
  have h1 : ((L.drop (i + 1)).take (j - i)).length = j - i := by simp; omega
  have h2 : (L.take i).length = i := by simp; omega
  have hl : (L.take i ++ (L.drop (i + 1)).take (j - i) ++ L.drop (i + ((L.drop (i + 1)).take (j - i)).length)).length = L.length := by simp; omega
  refine gt_ext (by rw [List.length_set, hl, mov_length (by omega) hj]) fun k hk => ?_
  rw [List.length_set, hl] at hk
  rw [gt_set (by omega), gt_mov (by omega) hj]
  simp only [gt_app, h2, h1, List.length_append, gt_take', gt_drop]
  repeat' split
  all_goals first | rfl | (exfalso; omega) | (congr 1; omega)
theorem mov_down {L : List Pkt} {i j : Nat} (hi : i < L.length) (h : j ≤ i) : (L.take (j + 1) ++ (L.drop j).take (i - j) ++ L.drop (j + 1 + ((L.drop j).take (i - j)).length)).set j (gt L i) = mov L i j := by
  have h1 : ((L.drop j).take (i - j)).length = i - j := by simp; omega
  have h2 : (L.take (j + 1)).length = j + 1 := by simp; omega
  have hl : (L.take (j + 1) ++ (L.drop j).take (i - j) ++ L.drop (j + 1 + ((L.drop j).take (i - j)).length)).length = L.length := by simp; omega
  refine gt_ext (by rw [List.length_set, hl, mov_length hi (by omega)]) fun k hk => ?_
  rw [List.length_set, hl] at hk
  rw [gt_set (by omega), gt_mov hi (by omega)]
  simp only [gt_app, h2, h1, List.length_append, gt_take', gt_drop]
  repeat' split
  all_goals first | rfl | (exfalso; omega) | (congr 1; omega)

end Go.Proofs.Ytapgnmigpfcdfaa.C
