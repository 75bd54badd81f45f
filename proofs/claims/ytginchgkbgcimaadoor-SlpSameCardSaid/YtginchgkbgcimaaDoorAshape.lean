/- Other names for the same memory; memory that is read only from now on. -/
import Derived.Test.YtginchgkbgcimaaDoorAcore
namespace Go.Proofs.YtginchgkbgcimaaDoor.AL
open Go Go.RowKit

/-- All names of objects in a value lie below a number. -/
inductive IdLt (n : Nat) : AV → Prop where
  | wild : IdLt n .wild
  | bool (b : Bool) : IdLt n (.bool b)
  | int (k : IntKind) (m : Int) : IdLt n (.int k m)
  | str (s : ByteArray) : IdLt n (.str s)
  | lit (v : Value) : IdLt n (.lit v)
  | agg (cs : List AV) (h : ∀ x ∈ cs, IdLt n x) : IdLt n (.agg cs)
  | tup (cs : List AV) (h : ∀ x ∈ cs, IdLt n x) : IdLt n (.tup cs)
  | ptr (i k : Nat) (h : i < n) : IdLt n (.ptr i k)
  | aptr (i k j s o : Nat) (h : i < n) : IdLt n (.aptr i k j s o)
  | iptr (cs : List AV) (k : Nat) (h : ∀ x ∈ cs, IdLt n x) : IdLt n (.iptr cs k)
  | slice (i k l c : Nat) (h : i < n) : IdLt n (.slice i k l c)
  | islice (e : Bool) (m : Nat) (cs : List AV) (h : ∀ x ∈ cs, IdLt n x) : IdLt n (.islice e m cs)
  | fn (f : Fn) (a c : List AV) (h : ∀ x ∈ a, IdLt n x) (h' : ∀ x ∈ c, IdLt n x) : IdLt n (.fn f a c)
  | iface (t : TypeId) (x : AV) (h : IdLt n x) : IdLt n (.iface t x)
  | yld (i : Nat) (h : i < n) : IdLt n (.yld i)

section
variable {n : Nat}
@[simp] theorem idLt_wild : IdLt n .wild ↔ True := ⟨fun _ => trivial, fun _ => .wild⟩
@[simp] theorem idLt_bool {b : Bool} : IdLt n (.bool b) ↔ True := ⟨fun _ => trivial, fun _ => .bool b⟩
@[simp] theorem idLt_int {k : IntKind} {m : Int} : IdLt n (.int k m) ↔ True := ⟨fun _ => trivial, fun _ => .int k m⟩
@[simp] theorem idLt_str {s : ByteArray} : IdLt n (.str s) ↔ True := ⟨fun _ => trivial, fun _ => .str s⟩
@[simp] theorem idLt_lit {v : Value} : IdLt n (.lit v) ↔ True := ⟨fun _ => trivial, fun _ => .lit v⟩
@[simp] theorem idLt_agg {cs : List AV} : IdLt n (.agg cs) ↔ ∀ x ∈ cs, IdLt n x := ⟨fun h => by cases h; assumption, .agg cs⟩
@[simp] theorem idLt_tup {cs : List AV} : IdLt n (.tup cs) ↔ ∀ x ∈ cs, IdLt n x := ⟨fun h => by cases h; assumption, .tup cs⟩
@[simp] theorem idLt_ptr {i k : Nat} : IdLt n (.ptr i k) ↔ i < n := ⟨fun h => by cases h; assumption, .ptr i k⟩
@[simp] theorem idLt_aptr {i k j s o : Nat} : IdLt n (.aptr i k j s o) ↔ i < n := ⟨fun h => by cases h; assumption, .aptr i k j s o⟩
@[simp] theorem idLt_iptr {cs : List AV} {k : Nat} : IdLt n (.iptr cs k) ↔ ∀ x ∈ cs, IdLt n x := ⟨fun h => by cases h; assumption, .iptr cs k⟩
@[simp] theorem idLt_slice {i k l c : Nat} : IdLt n (.slice i k l c) ↔ i < n := ⟨fun h => by cases h; assumption, .slice i k l c⟩
@[simp] theorem idLt_islice {e : Bool} {m : Nat} {cs : List AV} : IdLt n (.islice e m cs) ↔ ∀ x ∈ cs, IdLt n x := ⟨fun h => by cases h; assumption, .islice e m cs⟩
@[simp] theorem idLt_fn {f : Fn} {a c : List AV} : IdLt n (.fn f a c) ↔ (∀ x ∈ a, IdLt n x) ∧ ∀ x ∈ c, IdLt n x := ⟨fun h => by cases h; exact ⟨by assumption, by assumption⟩, fun h => .fn f a c h.1 h.2⟩
@[simp] theorem idLt_iface {t : TypeId} {x : AV} : IdLt n (.iface t x) ↔ IdLt n x := ⟨fun h => by cases h; assumption, .iface t x⟩
@[simp] theorem idLt_yld {i : Nat} : IdLt n (.yld i) ↔ i < n := ⟨fun h => by cases h; assumption, .yld i⟩
end

theorem idLt_list {n : Nat} {cs : List AV} {P : AV → Prop} (hp : ∀ x, P x → IdLt n x) (h : ∀ (j : Nat) x, cs[j]? = some x → P x) : ∀ x ∈ cs, IdLt n x := by
  intro x hx
  obtain ⟨j, hj, rfl⟩ := List.mem_iff_getElem.1 hx
  exact hp _ (h j _ (List.getElem?_eq_getElem hj))

theorem VR.idLt {σ : Sig} {n : Nat} (hd : ∀ i l, σ.loc i = some l → i < n) {x : AV} {v : Value} (r : VR σ x v) : IdLt n x := by
  have lst : ∀ {cs : List AV} {o : Nat} {c : Array Value}, o + cs.length ≤ c.size → (∀ (j : Nat) x y, cs[j]? = some x → c[o + j]? = some y → IdLt n x) → ∀ x ∈ cs, IdLt n x := by
    intro cs o c hs ih
    exact idLt_list (P := fun x => IdLt n x) (fun _ h => h) fun j x hj => by
      have : o + j < c.size := by have := (List.getElem?_eq_some_iff.1 hj).1; omega
      exact ih j x _ hj (Array.getElem?_eq_getElem this)
  induction r with
  | wild v => exact .wild
  | bool b => exact .bool b
  | int k n => exact .int k n
  | str s => exact .str s
  | lit v h => exact .lit v
  | agg cs ds hl _ ih => exact .agg cs (lst (o := 0) (c := ds) (by omega) fun j x y a b => ih j x y a (by simpa using b))
  | tup cs ds hl _ ih => exact .tup cs (lst (o := 0) (c := ds) (by omega) fun j x y a b => ih j x y a (by simpa using b))
  | ptr i k l hi => exact .ptr i k (hd _ _ hi)
  | aptr i k j s o l hi => exact .aptr i k j s o (hd _ _ hi)
  | iptr cs k b o c hb hs _ ih => exact .iptr cs k (lst hs ih)
  | slice i k len cap cap' l hi hl hc => exact .slice i k len cap (hd _ _ hi)
  | sliceE i a l hi => exact .slice i 0 0 0 (hd _ _ hi)
  | islice ex m cs b o cap c hn hx hb hs _ ih => exact .islice ex m cs (lst hs ih)
  | isliceE ex a cap hx ha => exact .islice ex 0 [] (by intro x hx; simp at hx)
  | fn f as cs as' cs' hl _ hl' _ ih ih' => exact .fn f as cs (lst (o := 0) (c := as') (by omega) fun j x y a b => ih j x y a (by simpa using b)) (lst (o := 0) (c := cs') (by omega) fun j x y a b => ih' j x y a (by simpa using b))
  | iface t x v _ ih => exact .iface t x ih
  | yld i l hi => exact .yld i (hd _ _ hi)

/-- What hangs on the names below n alone. -/
theorem VR.restrict {σ τ : Sig} {n : Nat} (hl : ∀ i l, i < n → σ.loc i = some l → τ.loc i = some l) (hf : ∀ b c, σ.fro b = some c → τ.fro b = some c) {x : AV} {v : Value} (r : VR σ x v) (hx : IdLt n x) : VR τ x v := by
  induction r with
  | wild v => exact .wild v
  | bool b => exact .bool b
  | int k n => exact .int k n
  | str s => exact .str s
  | lit v h => exact .lit v h
  | agg cs ds hl' _ ih => cases hx with | agg _ h => exact .agg cs ds hl' fun j x y a b => ih j x y a b (h x (List.mem_of_getElem? a))
  | tup cs ds hl' _ ih => cases hx with | tup _ h => exact .tup cs ds hl' fun j x y a b => ih j x y a b (h x (List.mem_of_getElem? a))
  | ptr i k l hi => cases hx with | ptr _ _ h => exact .ptr i k l (hl _ _ h hi)
  | aptr i k j s o l hi => cases hx with | aptr _ _ _ _ _ h => exact .aptr i k j s o l (hl _ _ h hi)
  | iptr cs k b o c hb hs _ ih => cases hx with | iptr _ _ h => exact .iptr cs k b o c (hf _ _ hb) hs fun j x y a b => ih j x y a b (h x (List.mem_of_getElem? a))
  | slice i k len cap cap' l hi h1 hc => cases hx with | slice _ _ _ _ h => exact .slice i k len cap cap' l (hl _ _ h hi) h1 hc
  | sliceE i a l hi => cases hx with | slice _ _ _ _ h => exact .sliceE i a l (hl _ _ h hi)
  | islice ex m cs b o cap c hn hx' hb hs _ ih => cases hx with | islice _ _ _ h => exact .islice ex m cs b o cap c hn hx' (hf _ _ hb) hs fun j x y a b => ih j x y a b (h x (List.mem_of_getElem? a))
  | isliceE ex a cap h1 ha => exact .isliceE ex a cap h1 ha
  | fn f as cs as' cs' h1 _ h2 _ ih ih' => cases hx with | fn _ _ _ h h' => exact .fn f as cs as' cs' h1 (fun j x y a b => ih j x y a b (h x (List.mem_of_getElem? a))) h2 (fun j x y a b => ih' j x y a b (h' x (List.mem_of_getElem? a)))
  | iface t x v _ ih => cases hx with | iface _ _ h => exact .iface t x v (ih h)
  | yld i l hi => cases hx with | yld _ h => exact .yld i l (hl _ _ h hi)

/-- What a value may be taken for: h the heap it stands in, N the old names by the new ones, F the objects that are read only from now on. -/
inductive Rs (h : Heap) (N F : List Nat) : AV → AV → Prop where
  | same (x : AV) (hx : IdLt 0 x) : Rs h N F x x
  | wild (x : AV) : Rs h N F x .wild
  | nil (ex : Bool) : Rs h N F (.lit (.slice none 0 0)) (.islice ex 0 [])
  | agg (cs ds : List AV) (hl : ds.length = cs.length) (hc : ∀ (j : Nat) x y, cs[j]? = some x → ds[j]? = some y → Rs h N F x y) : Rs h N F (.agg cs) (.agg ds)
  | tup (cs ds : List AV) (hl : ds.length = cs.length) (hc : ∀ (j : Nat) x y, cs[j]? = some x → ds[j]? = some y → Rs h N F x y) : Rs h N F (.tup cs) (.tup ds)
  | ptr (i j k : Nat) (hn : N[j]? = some i) : Rs h N F (.ptr i k) (.ptr j k)
  | aptr (i i' k j s o : Nat) (hn : N[i']? = some i) : Rs h N F (.aptr i k j s o) (.aptr i' k j s o)
  | slice (i j k l c : Nat) (hn : N[j]? = some i) : Rs h N F (.slice i k l c) (.slice j k l c)
  | iptr (cs ds : List AV) (k : Nat) (hl : ds.length = cs.length) (hc : ∀ (j : Nat) x y, cs[j]? = some x → ds[j]? = some y → Rs h N F x y) : Rs h N F (.iptr cs k) (.iptr ds k)
  | islice (ex ex' : Bool) (n : Nat) (cs ds : List AV) (hx : ex' = true → ex = true) (hl : ds.length = cs.length) (hc : ∀ (j : Nat) x y, cs[j]? = some x → ds[j]? = some y → Rs h N F x y) :
      Rs h N F (.islice ex n cs) (.islice ex' n ds)
  | fn (f : Fn) (as bs cs ds : List AV) (hl : bs.length = as.length) (hc : ∀ (j : Nat) x y, as[j]? = some x → bs[j]? = some y → Rs h N F x y)
      (hl' : ds.length = cs.length) (hc' : ∀ (j : Nat) x y, cs[j]? = some x → ds[j]? = some y → Rs h N F x y) : Rs h N F (.fn f as cs) (.fn f bs ds)
  | iface (t : TypeId) (x y : AV) (hc : Rs h N F x y) : Rs h N F (.iface t x) (.iface t y)
  | yld (i j : Nat) (hn : N[j]? = some i) : Rs h N F (.yld i) (.yld j)
  | nilS (i j : Nat) (hn : N[j]? = some i) (hi : i < h.length) : Rs h N F (.lit (.slice none 0 0)) (.slice j 0 0 0)
  | isliceS (i j : Nat) (hn : N[j]? = some i) (hi : i < h.length) : Rs h N F (.islice true 0 []) (.slice j 0 0 0)
  | fslice (i k len cap m : Nat) (cs ds : List AV) (opn : Option Nat) (hi : i ∈ F) (h1 : Readable h i cs opn) (hq : Real cs opn ∧ 0 < len ∨ len = 0 ∧ m = 0) (hm : k + m ≤ cs.length) (hl : ds.length = m)
      (hc : ∀ (j : Nat) x y, cs[k + j]? = some x → ds[j]? = some y → Rs h N F x y) : Rs h N F (.slice i k len cap) (.islice false len ds)
  | eslice (i k cap : Nat) : Rs h N F (.slice i k 0 cap) (.islice false 0 [])
  | eslice0 (i k : Nat) (cs : List AV) (h1 : Readable h i cs none) : Rs h N F (.slice i k 0 0) (.islice true 0 [])
  | fptr (i k : Nat) (cs ds : List AV) (opn : Option Nat) (hi : i ∈ F) (h1 : Readable h i cs opn) (hq : Real cs opn) (hl : ds.length = cs.length)
      (hc : ∀ (j : Nat) x y, cs[j]? = some x → ds[j]? = some y → Rs h N F x y) : Rs h N F (.ptr i k) (.iptr ds k)

/-- Pointwise. -/
structure RsL (h : Heap) (N F : List Nat) (cs ds : List AV) : Prop where
  len : ds.length = cs.length
  at_ : ∀ (j : Nat) x y, cs[j]? = some x → ds[j]? = some y → Rs h N F x y

theorem RsL.nil {h : Heap} {N F : List Nat} : RsL h N F [] [] := ⟨rfl, by intro j x y q; simp at q⟩
theorem RsL.cons {h : Heap} {N F : List Nat} {x y : AV} {cs ds : List AV} (a : Rs h N F x y) (r : RsL h N F cs ds) : RsL h N F (x :: cs) (y :: ds) := by
  refine ⟨by simp [r.len], ?_⟩
  intro j p q hp hq
  cases j with
  | zero => simp at hp hq; subst hp; subst hq; exact a
  | succ j => simp at hp hq; exact r.at_ j p q hp hq
theorem RsL.same {h : Heap} {N F : List Nat} {cs : List AV} (hc : ∀ x ∈ cs, IdLt 0 x) : RsL h N F cs cs :=
  ⟨rfl, fun j x y a b => by rw [a] at b; cases b; exact .same x (hc x (List.mem_of_getElem? a))⟩
theorem RsL.wilds {h : Heap} {N F : List Nat} {cs : List AV} {n : Nat} (hn : cs.length = n) : RsL h N F cs (List.replicate n .wild) :=
  ⟨by simp [hn], fun j x y _ b => by
    rw [List.getElem?_replicate] at b
    split at b
    · cases b; exact .wild x
    · cases b⟩
theorem RsL.append {h : Heap} {N F : List Nat} {as bs cs ds : List AV} (a : RsL h N F as cs) (b : RsL h N F bs ds) : RsL h N F (as ++ bs) (cs ++ ds) := by
  refine ⟨by simp [a.len, b.len], ?_⟩
  intro j x y hx hy
  rw [List.getElem?_append] at hx hy
  rw [a.len] at hy
  split at hx
  · rename_i q; rw [if_pos q] at hy; exact a.at_ j x y hx hy
  · rename_i q; rw [if_neg q] at hy; exact b.at_ _ x y hx hy
theorem Rs.tupL {h : Heap} {N F : List Nat} {cs ds : List AV} (r : RsL h N F cs ds) : Rs h N F (.tup cs) (.tup ds) := .tup cs ds r.len r.at_
theorem Rs.aggL {h : Heap} {N F : List Nat} {cs ds : List AV} (r : RsL h N F cs ds) : Rs h N F (.agg cs) (.agg ds) := .agg cs ds r.len r.at_
theorem Rs.isliceL {h : Heap} {N F : List Nat} {ex : Bool} {n : Nat} {cs ds : List AV} (r : RsL h N F cs ds) : Rs h N F (.islice ex n cs) (.islice false n ds) := .islice ex false n cs ds (fun q => by cases q) r.len r.at_
theorem Rs.iptrL {h : Heap} {N F : List Nat} {k : Nat} {cs ds : List AV} (r : RsL h N F cs ds) : Rs h N F (.iptr cs k) (.iptr ds k) := .iptr cs ds k r.len r.at_
theorem Rs.fnL {h : Heap} {N F : List Nat} {f : Fn} {as bs cs ds : List AV} (r : RsL h N F as bs) (q : RsL h N F cs ds) : Rs h N F (.fn f as cs) (.fn f bs ds) := .fn f as bs cs ds r.len r.at_ q.len q.at_
/-- A list of the call's own, read only from now on. -/
theorem Rs.fsliceL {h : Heap} {N F : List Nat} {i k len cap m : Nat} {cs ds : List AV} {opn : Option Nat} (hi : i ∈ F) (h1 : Readable h i cs opn) (hm : k + m ≤ cs.length) (r : RsL h N F ((cs.drop k).take m) ds) (hq : Real cs opn ∧ 0 < len ∨ len = 0 ∧ m = 0 := by first | exact .inr ⟨rfl, rfl⟩ | exact .inl ⟨.inr rfl, by first | omega | simp | fail⟩ | exact .inl ⟨.inl (by simp), by first | omega | simp | fail⟩ | exact .inl ⟨.inl (by assumption), by first | omega | simp | fail⟩) : Rs h N F (.slice i k len cap) (.islice false len ds) :=
  .fslice i k len cap m cs ds opn hi h1 hq hm (by have := r.len; simp at this; omega) fun j x y a b => r.at_ j x y (by
    have hj : j < m := by have := (List.getElem?_eq_some_iff.1 b).1; have := r.len; simp at this; omega
    rw [List.getElem?_take, if_pos hj, List.getElem?_drop]; exact a) b
theorem Rs.fptrL {h : Heap} {N F : List Nat} {i k : Nat} {cs ds : List AV} {opn : Option Nat} (hi : i ∈ F) (h1 : Readable h i cs opn) (r : RsL h N F cs ds) (hq : Real cs opn := by first | exact .inr rfl | exact .inl (by simp)) : Rs h N F (.ptr i k) (.iptr ds k) := .fptr i k cs ds opn hi h1 hq r.len r.at_

/-- The names turned, some objects read only. -/
noncomputable def Sig.shape (σ : Sig) (N F : List Nat) (h : Heap) (w : World) : Sig where
  loc j := (N[j]?).bind σ.loc
  fro b := open Classical in
    if (∃ i l cs o, i ∈ F ∧ h[i]? = some (.cells cs o) ∧ Real cs o ∧ σ.loc i = some l ∧ l.b = b) then (match w.heap[b]? with | some (.cells c _ _) => some c | _ => none) else σ.fro b
  mrk := σ.mrk

section
variable {w0 : Guard} {w : World} {σ : Sig} {h : Heap} {N F : List Nat}

theorem shape_fro (s : Sim w0 σ h w) {b : Nat} {c : Array Value} (hb : σ.fro b = some c) : (σ.shape N F h w).fro b = some c := by
  simp only [Sig.shape]
  rw [if_neg]
  · exact hb
  · rintro ⟨i, l, cs, o, _, h1, hq, h2, rfl⟩
    have := (s.live i cs o l h1 hq h2).nofro
    rw [hb] at this; cases this

/-- What an object of F holds. -/
theorem shape_obj (s : Sim w0 σ h w) {i : Nat} {cs : List AV} {o : Option Nat} {l : Loc} (hi : i ∈ F) (r : Readable h i cs o) (hq : Real cs o) (hl : σ.loc i = some l) :
    ∃ c, (σ.shape N F h w).fro l.b = some c ∧ l.o + cs.length ≤ c.size ∧ ∀ (j : Nat) x y, cs[j]? = some x → c[l.o + j]? = some y → VR σ x y := by
  rcases r with r | r
  · have L := s.live i cs o l r hq hl
    obtain ⟨c, e, hb, hs, hr⟩ := L.blk
    refine ⟨c, ?_, by have := L.room; omega, hr⟩
    simp only [Sig.shape]
    rw [if_pos ⟨i, l, cs, o, hi, r, hq, hl, rfl⟩, hb]
  · have L := s.frz i cs o l r hq hl
    obtain ⟨c, hb, hs, hr⟩ := L.blk
    exact ⟨c, shape_fro s hb, hs, hr⟩

theorem rs_VR (s : Sim w0 σ h w) {x y : AV} (r : Rs h N F x y) : ∀ {v : Value}, VR σ x v → VR (σ.shape N F h w) y v := by
  have nl : ∀ {j i : Nat} {l : Loc}, N[j]? = some i → σ.loc i = some l → (σ.shape N F h w).loc j = some l := by
    intro j i l hn hl; simp [Sig.shape, hn, hl]
  have lst : ∀ {cs ds : List AV} {c : Array Value} {o : Nat}, ds.length = cs.length → (∀ (j : Nat) x y, cs[j]? = some x → ds[j]? = some y → ∀ {v : Value}, VR σ x v → VR (σ.shape N F h w) y v) →
      (∀ (j : Nat) x y, cs[j]? = some x → c[o + j]? = some y → VR σ x y) → ∀ (j : Nat) x y, ds[j]? = some x → c[o + j]? = some y → VR (σ.shape N F h w) x y := by
    intro cs ds c o hl ih hr j x y hx hy
    have hj : j < cs.length := by rw [← hl]; exact (List.getElem?_eq_some_iff.1 hx).1
    exact ih j cs[j] x (List.getElem?_eq_getElem hj) hx (hr j _ y (List.getElem?_eq_getElem hj) hy)
  induction r with
  | same x hx => intro v q; exact q.restrict (n := 0) (fun i l hi => absurd hi (by omega)) (fun b c hb => shape_fro s hb) hx
  | wild x => intro v _; exact .wild v
  | nil ex => intro v q; cases q; exact .isliceE ex none 0 (fun _ => rfl) (fun _ => rfl)
  | agg cs ds hl hc ih =>
    intro v q
    cases q with
    | agg _ es h1 h2 => exact .agg ds es (by omega) fun j x y a b => lst (o := 0) hl ih (fun j x y a b => h2 j x y a (by simpa using b)) j x y a (by simpa using b)
  | tup cs ds hl hc ih =>
    intro v q
    cases q with
    | tup _ es h1 h2 => exact .tup ds es (by omega) fun j x y a b => lst (o := 0) hl ih (fun j x y a b => h2 j x y a (by simpa using b)) j x y a (by simpa using b)
  | ptr i j k hn => intro v q; cases q with | ptr _ _ l hl => exact .ptr j k l (nl hn hl)
  | aptr i i' k j s o hn => intro v q; cases q with | aptr _ _ _ _ _ l hl => exact .aptr i' k j s o l (nl hn hl)
  | slice i j k l c hn =>
    intro v q
    cases q with
    | slice _ _ _ _ cap' l hl h1 h2 => exact .slice j k _ _ cap' l (nl hn hl) h1 h2
    | sliceE _ a l hl => exact .sliceE j a l (nl hn hl)
  | nilS i j hn hi =>
    intro v q
    obtain ⟨l, hl⟩ := s.dom i hi
    cases q; exact .sliceE j none l (nl hn hl)
  | isliceS i j hn hi =>
    intro v q
    obtain ⟨l, hl⟩ := s.dom i hi
    cases q with
    | islice _ _ _ b o cap c h1 h2 hb hs hr => rw [h2 rfl]; exact .sliceE j _ l (nl hn hl)
    | isliceE _ a cap h1 ha => rw [h1 rfl]; exact .sliceE j _ l (nl hn hl)
  | iptr cs ds k hl hc ih => intro v q; cases q with | iptr _ _ b o c hb hs hr => exact .iptr ds k b o c (shape_fro s hb) (by omega) (lst hl ih hr)
  | islice ex ex' n cs ds hx hl hc ih =>
    intro v q
    cases q with
    | islice _ _ _ b o cap c h1 h2 hb hs hr => exact .islice ex' n ds b o cap c h1 (fun e => h2 (hx e)) (shape_fro s hb) (by omega) (lst hl ih hr)
    | isliceE _ a cap h1 ha =>
      have : ds = [] := List.length_eq_zero_iff.1 (by simpa using hl)
      subst this
      exact .isliceE ex' a cap (fun e => h1 (hx e)) ha
  | fn f as bs cs ds hl hc hl' hc' ih ih' =>
    intro v q
    cases q with
    | fn _ _ _ as' cs' h1 h2 h3 h4 =>
      exact .fn f bs ds as' cs' (by omega) (fun j x y a b => lst (o := 0) hl ih (fun j x y a b => h2 j x y a (by simpa using b)) j x y a (by simpa using b))
        (by omega) (fun j x y a b => lst (o := 0) hl' ih' (fun j x y a b => h4 j x y a (by simpa using b)) j x y a (by simpa using b))
  | iface t x y hc ih => intro v q; cases q with | iface _ _ u hu => exact .iface t y u (ih hu)
  | yld i j hn => intro v q; cases q with | yld _ l hl => exact .yld j l (nl hn hl)
  | fslice i k len cap m cs ds opn hi h1 hq hm hl hc ih =>
    intro v q
    cases q with
    | sliceE _ a l h2 =>
      rcases hq with ⟨_, hq⟩ | ⟨_, rfl⟩
      · omega
      · have : ds = [] := List.length_eq_zero_iff.1 hl
        subst this
        exact .isliceE false _ _ (by intro q; cases q) (fun _ => rfl)
    | slice _ _ _ _ cap' l h2 h3 h4 =>
      rcases hq with ⟨hq, _⟩ | ⟨rfl, rfl⟩
      rotate_left
      · have : ds = [] := List.length_eq_zero_iff.1 hl
        subst this
        exact .isliceE false _ _ (by intro q; cases q) (by intro q; cases q)
      obtain ⟨c, hf, hs, hr⟩ := shape_obj (N := N) s hi h1 hq h2
      have hle : len ≤ cap' := by rcases h4 with rfl | ⟨_, _, q, _⟩ <;> omega
      refine .islice false len ds l.b (l.o + k) cap' c hle (by intro q; cases q) hf (by omega) ?_
      intro j x y hx hy
      have hj : k + j < cs.length := by have := (List.getElem?_eq_some_iff.1 hx).1; omega
      exact ih j cs[k + j] x (List.getElem?_eq_getElem hj) hx (hr (k + j) _ y (List.getElem?_eq_getElem hj) (by rw [← Nat.add_assoc]; exact hy))
  | eslice0 i k cs h1 =>
    intro v q
    cases q with
    | sliceE _ a l h2 => exact .isliceE true _ _ (fun _ => rfl) (fun _ => rfl)
    | slice _ _ _ _ cap' l h2 h3 h4 =>
      obtain ⟨_, e, _⟩ := s.read h1 (.inr rfl) h2
      have hc : cap' = 0 := by
        rcases h4 with q | ⟨_, q, _⟩
        · exact q
        · rw [e] at q; cases q
      subst hc
      exact .isliceE true _ _ (fun _ => rfl) (fun _ => rfl)
  | eslice i k cap =>
    intro v q
    cases q with
    | slice _ _ _ _ cap' l h2 h3 h4 => exact .isliceE false _ _ (by intro q; cases q) (by intro q; cases q)
    | sliceE _ a l h2 => exact .isliceE false _ _ (by intro q; cases q) (fun _ => rfl)
  | fptr i k cs ds opn hi h1 hq hl hc ih =>
    intro v q
    cases q with
    | ptr _ _ l h2 =>
      obtain ⟨c, hf, hs, hr⟩ := shape_obj (N := N) s hi h1 hq h2
      exact .iptr ds k l.b l.o c hf (by omega) (lst hl ih hr)

/-- One object by its old name. -/
def ObjR (h : Heap) (N F : List Nat) (i : Nat) (o : AObj) : Prop :=
  match o with
  | .cells ds op => (¬ Real ds op ∧ ∃ op', h[i]? = some (.cells [] op')) ∨ (i ∉ F ∧ ∃ cs, h[i]? = some (.cells cs op) ∧ RsL h N F cs ds)
  | .fro ds op => (¬ Real ds op ∧ ∃ op', Readable h i [] op') ∨ ((i ∈ F ∨ ∃ cs, h[i]? = some (.fro cs op)) ∧ ∃ cs, Readable h i cs op ∧ RsL h N F cs ds)
  | .dead => i < h.length
  | .loop c us st => ∃ ts, h[i]? = some (.loop c ts st) ∧ RsL h N F ts us

def ObjsR (h : Heap) (N F : List Nat) : List Nat → Heap → Prop
  | [], [] => True
  | i :: is, o :: os => ObjR h N F i o ∧ ObjsR h N F is os
  | _, _ => False

theorem ObjsR.len {is : List Nat} {os : Heap} (r : ObjsR h N F is os) : os.length = is.length := by
  induction is generalizing os with
  | nil => cases os <;> first | rfl | exact r.elim
  | cons i is ih => cases os <;> first | exact r.elim | (simp [ih r.2])

theorem ObjsR.get {is : List Nat} {os : Heap} (r : ObjsR h N F is os) {j : Nat} {o : AObj} (hj : os[j]? = some o) : ∃ i, is[j]? = some i ∧ ObjR h N F i o := by
  induction is generalizing os j with
  | nil => cases os <;> first | (simp at hj; done) | exact r.elim
  | cons i is ih =>
    cases os with
    | nil => exact r.elim
    | cons o' os =>
      cases j with
      | zero => simp at hj; subst hj; exact ⟨i, rfl, r.1⟩
      | succ j => simp at hj; simpa using ih r.2 hj

theorem ObjR.lt {i : Nat} {o : AObj} (r : ObjR h N F i o) : i < h.length := by
  cases o with
  | cells ds op => rcases r with ⟨_, _, h1⟩ | ⟨_, cs, h1, _⟩ <;> exact (List.getElem?_eq_some_iff.1 h1).1
  | fro ds op => rcases r with ⟨_, _, h1⟩ | ⟨_, cs, h1, _⟩ <;> exact h1.lt
  | dead => exact r
  | loop c us st => obtain ⟨ts, h1, _⟩ := r; exact (List.getElem?_eq_some_iff.1 h1).1

theorem sim_shape (s : Sim w0 σ h w) {hh : Heap} (r : ObjsR h N F N hh) (nd : N.Nodup) : Sim w0 (σ.shape N F h w) hh w := by
  have hlen := r.len
  have inv : ∀ {j : Nat} {l : Loc}, (σ.shape N F h w).loc j = some l → ∃ i, N[j]? = some i ∧ σ.loc i = some l := by
    intro j l hl
    simp only [Sig.shape, Option.bind_eq_some_iff] at hl
    exact hl
  refine ⟨s.below, ?_, ?_, ?_, ?_, ?_, ?_, ?_, ⟨?_, ?_, s.ex.mrk⟩, ?vac⟩
  case vac =>
    intro j op l hj ho hl
    obtain ⟨i, hi, hl'⟩ := inv hl
    rcases hj with hj | hj
    rotate_left
    · obtain ⟨i', hi', hobj⟩ := r.get hj
      rw [hi] at hi'; cases hi'
      rcases hobj with ⟨_, op', h1⟩ | ⟨_, cs, h1, hr⟩
      · exact s.vac0 h1 hl'
      · have : cs = [] := List.length_eq_zero_iff.1 hr.len.symm
        subst this
        exact s.vac i op l h1 ho hl'
    obtain ⟨i', hi', hobj⟩ := r.get hj
    rw [hi] at hi'; cases hi'
    rcases hobj with ⟨_, op', h1⟩ | ⟨_, cs, h1, hr⟩
    · exact s.vac0 (.inl h1) hl'
    · have : cs = [] := List.length_eq_zero_iff.1 hr.len.symm
      subst this
      exact s.vac i op l (.inl h1) ho hl'
  rotate_left 7
  · intro j c us st l hj hl
    obtain ⟨i, hi, hl'⟩ := inv hl
    obtain ⟨i', hi', ho⟩ := r.get hj
    rw [hi] at hi'; cases hi'
    obtain ⟨ts, h1, hr⟩ := ho
    have L := s.ex.loop i c ts st l h1 hl'
    obtain ⟨fn, t, as, bd, d, q1, q2, q3⟩ := L.blk
    refine ⟨L.base, fn, t, as, bd, d, q1, q2, ⟨hr.len.trans q3.len, ?_⟩⟩
    intro k x y hx hy
    have hk : k < ts.length := by rw [← hr.len]; exact (List.getElem?_eq_some_iff.1 hx).1
    exact rs_VR s (hr.at_ k ts[k] x (List.getElem?_eq_getElem hk) hx) (q3.at_ k _ y (List.getElem?_eq_getElem hk) hy)
  · intro j j2 c us st c' us' st' l m hne hj hj2 hl hm
    obtain ⟨i, hi, hl'⟩ := inv hl
    obtain ⟨i2, hi2, hm'⟩ := inv hm
    obtain ⟨i', hi', ho⟩ := r.get hj
    obtain ⟨i2', hi2', ho2⟩ := r.get hj2
    rw [hi] at hi'; cases hi'
    rw [hi2] at hi2'; cases hi2'
    obtain ⟨ts, h1, _⟩ := ho
    obtain ⟨ts2, h2, _⟩ := ho2
    refine s.ex.lap i i2 c ts st c' ts2 st' l m (fun e => hne ?_) h1 h2 hl' hm'
    subst e
    exact (List.getElem?_inj (List.getElem?_eq_some_iff.1 hi).1 nd).1 (hi.trans hi2.symm)
  · intro j hj
    obtain ⟨i, hi, ho⟩ := r.get (List.getElem?_eq_getElem hj)
    obtain ⟨l, hl⟩ := s.dom i ho.lt
    exact ⟨l, by simp [Sig.shape, hi, hl]⟩
  · intro j l hl
    obtain ⟨i, hi, _⟩ := inv hl
    rw [hlen]; exact (List.getElem?_eq_some_iff.1 hi).1
  · intro b c hb
    simp only [Sig.shape] at hb
    split at hb
    · rename_i hx
      obtain ⟨i, l, cs, o, _, h1, hq, h2, rfl⟩ := hx
      obtain ⟨c', e, hbb, _, _⟩ := (s.live i cs o l h1 hq h2).blk
      rw [hbb] at hb; cases hb
      exact ⟨e, _, hbb⟩
    · exact s.fro b c hb
  · intro j ds op l hj hqd hl
    obtain ⟨i, hi, hl'⟩ := inv hl
    obtain ⟨i', hi', ho⟩ := r.get hj
    rw [hi] at hi'; cases hi'
    obtain ⟨hF, cs, h1, hr⟩ := (Or.resolve_left ho (fun q => q.1 hqd))
    have hqc : Real cs op := hqd.of_len hr.len
    have L := s.live i cs op l h1 hqc hl'
    obtain ⟨c, e, hb, hs, hv⟩ := L.blk
    refine ⟨L.base, ?_, by rw [L.n, hr.len], L.opn, by rw [hr.len]; exact L.room, c, e, hb, hs, ?_⟩
    · simp only [Sig.shape]
      rw [if_neg]
      · exact L.nofro
      · rintro ⟨i2, l2, cs2, o2, q1, q2, qr, q3, q4⟩
        exact s.apart i2 i cs2 cs o2 op l2 l (fun e => hF (e ▸ q1)) q2 h1 qr hqc q3 hl' q4
    · intro k x y hx hy
      have hk : k < cs.length := by rw [← hr.len]; exact (List.getElem?_eq_some_iff.1 hx).1
      exact rs_VR s (hr.at_ k cs[k] x (List.getElem?_eq_getElem hk) hx) (hv k _ y (List.getElem?_eq_getElem hk) hy)
  · intro j j2 ds ds2 op op2 l l2 hne hj hj2 hqd hqd2 hl hl2
    obtain ⟨i, hi, hl'⟩ := inv hl
    obtain ⟨i2, hi2, hl2'⟩ := inv hl2
    obtain ⟨i', hi', ho⟩ := r.get hj
    obtain ⟨i2', hi2', ho2⟩ := r.get hj2
    rw [hi] at hi'; cases hi'
    rw [hi2] at hi2'; cases hi2'
    obtain ⟨_, cs, h1, hr1⟩ := (Or.resolve_left ho (fun q => q.1 hqd))
    obtain ⟨_, cs2, h2, hr2⟩ := (Or.resolve_left ho2 (fun q => q.1 hqd2))
    refine s.apart i i2 cs cs2 op op2 l l2 (fun e => hne ?_) h1 h2 (hqd.of_len hr1.len) (hqd2.of_len hr2.len) hl' hl2'
    subst e
    exact (List.getElem?_inj (List.getElem?_eq_some_iff.1 hi).1 nd).1 (hi.trans hi2.symm)
  · intro j ds op l hj hqd hl
    obtain ⟨i, hi, hl'⟩ := inv hl
    obtain ⟨i', hi', ho⟩ := r.get hj
    rw [hi] at hi'; cases hi'
    obtain ⟨hF, cs, h1, hr⟩ := (Or.resolve_left ho (fun q => q.1 hqd))
    have hqc : Real cs op := hqd.of_len hr.len
    obtain ⟨e1, e2, _⟩ := s.read h1 hqc hl'
    have main : ∃ c, (σ.shape N F h w).fro l.b = some c ∧ l.o + cs.length ≤ c.size ∧ ∀ (j : Nat) x y, cs[j]? = some x → c[l.o + j]? = some y → VR σ x y := by
      rcases hF with hF | ⟨cs', hF⟩
      · exact shape_obj s hF h1 hqc hl'
      · rcases h1 with h1 | h1
        · rw [hF] at h1; cases h1
        · have L := s.frz i cs op l h1 hqc hl'
          obtain ⟨c, hb, hs, hr⟩ := L.blk
          exact ⟨c, shape_fro s hb, hs, hr⟩
    obtain ⟨c, hc, hs, hv⟩ := main
    refine ⟨by rw [e1, hr.len], e2, c, hc, by rw [hr.len]; exact hs, ?_⟩
    intro k x y hx hy
    have hk : k < cs.length := by rw [← hr.len]; exact (List.getElem?_eq_some_iff.1 hx).1
    exact rs_VR s (hr.at_ k cs[k] x (List.getElem?_eq_getElem hk) hx) (hv k _ y (List.getElem?_eq_getElem hk) hy)
  · intro b c hb
    simp only [Sig.shape] at hb
    split at hb
    · rename_i hx
      obtain ⟨i, l, cs, o, _, h1, hq, h2, rfl⟩ := hx
      exact fun q => (s.live i cs o l h1 hq h2).base (w0.xp _ q)
    · exact s.hide b c hb
end

end Go.Proofs.YtginchgkbgcimaaDoor.AL
