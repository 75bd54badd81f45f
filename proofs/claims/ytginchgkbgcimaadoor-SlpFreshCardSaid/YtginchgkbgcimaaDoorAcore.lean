/- The abstract states of this seat's proofs: values, heaps, what relates them to the model's world. -/
import Derived.Tactics
import Derived.Below
import Derived.Laws.Entries
import Derived.Laws.Cells
namespace Go.Proofs.YtginchgkbgcimaaDoor.AL
open Go Go.RowKit

/-- An abstract value: data that is only read lies in the value itself (islice, iptr); what may be written lies in the abstract heap (ptr, slice). -/
inductive AV where
  | wild
  | bool (b : Bool)
  | int (k : IntKind) (n : Int)
  | str (s : ByteArray)
  | lit (v : Value)
  | agg (cs : List AV)
  | tup (vs : List AV)
  | ptr (i k : Nat)
  | iptr (cs : List AV) (k : Nat)
  | aptr (i k j s o : Nat)
  | slice (i k len cap : Nat)
  | islice (ex : Bool) (n : Nat) (cs : List AV)
  | fn (f : Fn) (first captured : List AV)
  | iface (t : TypeId) (x : AV)
  | yld (i : Nat)
  deriving Inhabited

/-- The state of a range over a function. -/
inductive LSt where
  | ready
  | busy
  | done (c : Code)
def LSt.state : LSt → LoopState
  | .ready => .ready
  | .busy => .busy
  | .done _ => .done
def LSt.pend : LSt → Option Code
  | .done c => some c
  | _ => none
/-- What such a loop is: of what function, its assignments, its body; its variables. -/
structure LC where
  cp : FuncId → Code → Code → Prop
  ps : List Nat

/-- An object: its cells, for the call alone (cells), or for reading alone (fro); a range over a function (the slots that its rounds begin with). -/
inductive AObj where
  | cells (cs : List AV) (opn : Option Nat)
  | fro (cs : List AV) (opn : Option Nat)
  | dead
  | loop (c : LC) (ts : List AV) (st : LSt)

instance : Inhabited AObj := ⟨.dead⟩

/-- What is known of the package-level variables, in every world that a call meets. -/
def Shp (w : World) : Prop := (∃ m, w.cell? ⟨1, 0, none⟩ = some (.int .i64 m)) ∧ True

/-- What a call leaves alone: some blocks of a world (p); some of these are not even to be read (x). -/
structure Guard where
  w : World
  p : Nat → Prop
  x : Nat → Prop
  xp : ∀ b, x b → p b
  sh : ∀ w' : World, (∀ k, p k → w'.heap[k]? = w.heap[k]?) → Shp w'

structure Kept (G : Guard) (w : World) : Prop where
  os : w.os = G.w.os
  tape : w.tape = G.w.tape
  output : w.output = G.w.output
  size : G.w.heap.size ≤ w.heap.size
  block : ∀ k, G.p k → k < G.w.heap.size ∧ w.heap[k]? = G.w.heap[k]?

theorem Kept.shp {G : Guard} {w : World} (h : Kept G w) : Shp w := G.sh w fun k hk => (h.block k hk).2
theorem Kept.drew {G : Guard} {w : World} (h : Kept G w) : Kept G w.drew := ⟨h.os, h.tape, h.output, h.size, h.block⟩
theorem Kept.setCell {G : Guard} {w : World} (h : Kept G w) {p : Addr} (hp : ¬ G.p p.block) (u : Value) : Kept G (w.setCell p u) :=
  ⟨h.os, h.tape, h.output, by simpa [World.setCell] using h.size, fun k hk => ⟨(h.block k hk).1, by rw [Below.heap_setCell _ _ _ _ (fun e => hp (e ▸ hk))]; exact (h.block k hk).2⟩⟩
theorem Kept.alloc {G : Guard} {w : World} (h : Kept G w) (o : Obj) : Kept G (w.alloc o) :=
  ⟨h.os, h.tape, h.output, by have := h.size; simp; omega, fun k hk => ⟨(h.block k hk).1, by rw [Below.heap_alloc _ _ _ (by have := (h.block k hk).1; have := h.size; omega)]; exact (h.block k hk).2⟩⟩

abbrev Heap := List AObj

structure Loc where
  b : Nat
  o : Nat
  room : Nat
  n : Nat
  opn : Option Nat

/-- What 'opn' says: the size of an element that more may be appended to (below 2^20), or that and the type of the block (the type's number + 1, times 2^20; size 0: a struct, whole). -/
def osz (q : Nat) : Nat := q % 1048576
theorem osz_lt {q : Nat} (h : q < 1048576) : osz q = q := Nat.mod_eq_of_lt h
def Typed (opn : Option Nat) (e : TypeId) (n : Nat) (l : Loc) : Prop := ∀ q, opn = some q → 1048576 ≤ q → e + 1 = q / 1048576 ∧ l.o = 0 ∧ (osz q = 0 → n = l.n)
theorem typed_none {e : TypeId} {n : Nat} {l : Loc} : Typed none e n l := fun q h => by cases h
theorem typed_lt {q : Nat} (h : q < 1048576) {e : TypeId} {n : Nat} {l : Loc} : Typed (some q) e n l := fun r hr hq => by cases hr; omega

structure Sig where
  loc : Nat → Option Loc
  fro : Nat → Option (Array Value)
  mrk : Nat → Prop

structure Sig.Le (σ τ : Sig) : Prop where
  loc : ∀ i l, σ.loc i = some l → τ.loc i = some l
  fro : ∀ b c, σ.fro b = some c → τ.fro b = some c
  mrk : ∀ b, σ.mrk b → τ.mrk b

theorem Sig.Le.refl (σ : Sig) : σ.Le σ := ⟨fun _ _ h => h, fun _ _ h => h, fun _ h => h⟩
theorem Sig.Le.trans {a b c : Sig} (h : a.Le b) (k : b.Le c) : a.Le c := ⟨fun i l x => k.loc i l (h.loc i l x), fun i l x => k.fro i l (h.fro i l x), fun b x => k.mrk b (h.mrk b x)⟩

def plainLit : Value → Bool
  | .float .. | .complex .. | .pointer none | .slice none 0 0 | .map none | .chan none | .nilFunc | .nilIface => true
  | _ => false

inductive VR (σ : Sig) : AV → Value → Prop where
  | wild (v : Value) : VR σ .wild v
  | bool (b : Bool) : VR σ (.bool b) (.bool b)
  | int (k : IntKind) (n : Int) : VR σ (.int k n) (.int k n)
  | str (s : ByteArray) : VR σ (.str s) (.string s)
  | lit (v : Value) (h : plainLit v = true) : VR σ (.lit v) v
  | agg (cs : List AV) (ds : Array Value) (hl : cs.length = ds.size) (h : ∀ (j : Nat) x y, cs[j]? = some x → ds[j]? = some y → VR σ x y) : VR σ (.agg cs) (.agg ds)
  | tup (cs : List AV) (ds : Array Value) (hl : cs.length = ds.size) (h : ∀ (j : Nat) x y, cs[j]? = some x → ds[j]? = some y → VR σ x y) : VR σ (.tup cs) (.tuple ds)
  | ptr (i k : Nat) (l : Loc) (h : σ.loc i = some l) : VR σ (.ptr i k) (.pointer (some ⟨l.b, l.o + k, none⟩))
  | aptr (i k j s o : Nat) (l : Loc) (h : σ.loc i = some l) : VR σ (.aptr i k j s o) (.pointer (some ⟨l.b, l.o + (k + j * s + o), none⟩))
  | iptr (cs : List AV) (k b o : Nat) (c : Array Value) (hb : σ.fro b = some c) (hs : o + cs.length ≤ c.size) (h : ∀ (j : Nat) x y, cs[j]? = some x → c[o + j]? = some y → VR σ x y) :
      VR σ (.iptr cs k) (.pointer (some ⟨b, o + k, none⟩))
  | slice (i k len cap cap' : Nat) (l : Loc) (h : σ.loc i = some l) (hl : len ≤ cap)
      (hc : cap' = cap ∨ ∃ sz, l.opn = some sz ∧ (0 < cap ∧ cap ≤ cap' ∧ 0 < osz sz) ∧ k + cap * osz sz = l.n ∧ k + cap' * osz sz ≤ l.room) :
      VR σ (.slice i k len cap) (.slice (some ⟨l.b, l.o + k, none⟩) len cap')
  | sliceE (i : Nat) (a : Option Addr) (l : Loc) (h : σ.loc i = some l) : VR σ (.slice i 0 0 0) (.slice a 0 0)
  | islice (ex : Bool) (n : Nat) (cs : List AV) (b o cap : Nat) (c : Array Value) (hn : n ≤ cap) (hx : ex = true → cap = n) (hb : σ.fro b = some c) (hs : o + cs.length ≤ c.size)
      (h : ∀ (j : Nat) x y, cs[j]? = some x → c[o + j]? = some y → VR σ x y) : VR σ (.islice ex n cs) (.slice (some ⟨b, o, none⟩) n cap)
  | isliceE (ex : Bool) (a : Option Addr) (cap : Nat) (hx : ex = true → cap = 0) (ha : a = none → cap = 0) : VR σ (.islice ex 0 []) (.slice a 0 cap)
  | fn (f : Fn) (as cs : List AV) (as' cs' : Array Value) (hl : as.length = as'.size) (h : ∀ (j : Nat) x y, as[j]? = some x → as'[j]? = some y → VR σ x y)
      (hl' : cs.length = cs'.size) (h' : ∀ (j : Nat) x y, cs[j]? = some x → cs'[j]? = some y → VR σ x y) : VR σ (.fn f as cs) (.func f as' cs')
  | iface (t : TypeId) (x : AV) (v : Value) (h : VR σ x v) : VR σ (.iface t x) (.iface t v)
  | yld (i : Nat) (l : Loc) (h : σ.loc i = some l) : VR σ (.yld i) (.func (.yield l.b) #[] #[])

theorem VR.mono {σ τ : Sig} (h : σ.Le τ) {x : AV} {v : Value} (r : VR σ x v) : VR τ x v := by
  induction r with
  | wild v => exact .wild v
  | bool b => exact .bool b
  | int k n => exact .int k n
  | str s => exact .str s
  | lit v h => exact .lit v h
  | agg cs ds hl _ ih => exact .agg cs ds hl ih
  | tup cs ds hl _ ih => exact .tup cs ds hl ih
  | ptr i k l hi => exact .ptr i k l (h.loc _ _ hi)
  | aptr i k j s o l hi => exact .aptr i k j s o l (h.loc _ _ hi)
  | iptr cs k b o c hb hs _ ih => exact .iptr cs k b o c (h.fro _ _ hb) hs ih
  | slice i k len cap cap' l hi hl hc => exact .slice i k len cap cap' l (h.loc _ _ hi) hl hc
  | sliceE i a l hi => exact .sliceE i a l (h.loc _ _ hi)
  | islice ex n cs b o cap c hn hx hb hs _ ih => exact .islice ex n cs b o cap c hn hx (h.fro _ _ hb) hs ih
  | isliceE ex a cap hx ha => exact .isliceE ex a cap hx ha
  | fn f as cs as' cs' hl _ hl' _ ih ih' => exact .fn f as cs as' cs' hl ih hl' ih'
  | iface t x v _ ih => exact .iface t x v ih
  | yld i l hi => exact .yld i l (h.loc _ _ hi)

/-- Pointwise, over lists and arrays. -/
structure VRs (σ : Sig) (xs : List AV) (vs : List Value) : Prop where
  len : xs.length = vs.length
  at_ : ∀ (j : Nat) x y, xs[j]? = some x → vs[j]? = some y → VR σ x y

theorem VRs.mono {σ τ : Sig} (h : σ.Le τ) {xs : List AV} {vs : List Value} (r : VRs σ xs vs) : VRs τ xs vs := ⟨r.len, fun j x y a b => (r.at_ j x y a b).mono h⟩
theorem VRs.nil (σ : Sig) : VRs σ [] [] := ⟨rfl, by intro j x y h; simp at h⟩
theorem VRs.cons {σ : Sig} {x : AV} {v : Value} {xs : List AV} {vs : List Value} (h : VR σ x v) (r : VRs σ xs vs) : VRs σ (x :: xs) (v :: vs) := by
  refine ⟨by simp [r.len], ?_⟩
  intro j a b ha hb
  cases j with
  | zero => simp at ha hb; subst ha; subst hb; exact h
  | succ j => simp at ha hb; exact r.at_ j a b ha hb
theorem VRs.append {σ : Sig} {xs ys : List AV} {vs us : List Value} (h : VRs σ xs vs) (k : VRs σ ys us) : VRs σ (xs ++ ys) (vs ++ us) := by
  refine ⟨by simp [h.len, k.len], ?_⟩
  intro j a b ha hb
  rw [List.getElem?_append] at ha hb
  rw [← h.len] at hb
  split at ha
  · rename_i hj; rw [if_pos hj] at hb; exact h.at_ j a b ha hb
  · rename_i hj; rw [if_neg hj] at hb; exact k.at_ _ a b ha hb
theorem VRs.get {σ : Sig} {xs : List AV} {vs : List Value} (r : VRs σ xs vs) {j : Nat} {x : AV} (h : xs[j]? = some x) : ∃ y, vs[j]? = some y ∧ VR σ x y := by
  have hj : j < vs.length := by rw [← r.len]; exact (List.getElem?_eq_some_iff.1 h).1
  exact ⟨vs[j], by simp [hj], r.at_ j x _ h (by simp [hj])⟩
theorem VRs.set {σ : Sig} {xs : List AV} {vs : List Value} (r : VRs σ xs vs) (j : Nat) {x : AV} {v : Value} (h : VR σ x v) : VRs σ (xs.set j x) (vs.set j v) := by
  refine ⟨by simp [r.len], ?_⟩
  intro i a b ha hb
  rw [List.getElem?_set] at ha hb
  rw [← r.len] at hb
  split at ha
  · rename_i hj
    rw [if_pos hj] at hb
    split at ha
    · rename_i hl
      rw [if_pos hl] at hb
      simp at ha hb; subst ha; subst hb; exact h
    · simp at ha
  · rename_i hj
    rw [if_neg hj] at hb
    exact r.at_ i a b ha hb

theorem VRs.replicate_wild (σ : Sig) (n : Nat) (vs : List Value) (h : vs.length = n) : VRs σ (List.replicate n .wild) vs := by
  refine ⟨by simp [h], ?_⟩
  intro j x y hx _
  rw [List.getElem?_replicate] at hx
  split at hx
  · simp at hx; subst hx; exact .wild _
  · simp at hx

/-- One cell: what may lie in memory. -/
def AV.isCell : AV → Bool
  | .wild | .agg _ | .tup _ => false
  | _ => true

theorem VR.oneCell {σ : Sig} {x : AV} {v : Value} (r : VR σ x v) (h : x.isCell = true) : v.oneCell' = true := by
  cases r <;> first | rfl | (simp [AV.isCell] at h; done) | skip
  rename_i h'
  revert h'
  cases v <;> simp [plainLit, Value.oneCell']

/-- The cells of a value. -/
def AV.cellList : AV → List AV
  | .agg cs => cs
  | v => [v]

theorem VR.cellsList {σ : Sig} {x : AV} {v : Value} (r : VR σ x v) (h : x.cellList.all AV.isCell = true) : VRs σ x.cellList v.cells.toList := by
  have one : x.isCell = true → VRs σ [x] v.cells.toList := by
    intro hx
    have h1 := r.oneCell hx
    have : v.cells = #[v] := by cases v <;> simp [Value.oneCell'] at h1 <;> rfl
    rw [this]
    exact .cons r (.nil σ)
  cases r with
  | agg cs ds hl hh => exact ⟨by simpa [AV.cellList, Value.cells] using hl, by intro j x y hx hy; simp [AV.cellList, Value.cells] at hx hy; exact hh j x y hx hy⟩
  | wild v => simp [AV.cellList, AV.isCell] at h
  | tup cs ds hl hh => simp [AV.cellList, AV.isCell] at h
  | _ => exact one rfl

/-- An object that there is: one of no cells that is open is none (an empty list that will grow). -/
def Real (cs : List AV) (opn : Option Nat) : Prop := cs ≠ [] ∨ opn = none
theorem Real.of_lt {cs : List AV} {opn : Option Nat} {k : Nat} (h : k < cs.length) : Real cs opn := .inl (by intro e; subst e; simp at h)

/-- A name of nothing. -/
abbrev gho : AObj := .cells [] (some 1)
theorem real_gho {cs : List AV} {op : Option Nat} (e : gho = .cells cs op) (h : Real cs op) : False := by
  cases e
  rcases h with h | h
  · exact h rfl
  · cases h
theorem Real.of_len {cs ds : List AV} {opn : Option Nat} (h : Real ds opn) (e : ds.length = cs.length) : Real cs opn := by
  rcases h with h | h
  · exact .inl (fun q => h (List.length_eq_zero_iff.1 (by rw [e, q]; rfl)))
  · exact .inr h

structure Live (w0 : Guard) (σ : Sig) (w : World) (cs : List AV) (opn : Option Nat) (l : Loc) : Prop where
  base : ¬ w0.p l.b
  nofro : σ.fro l.b = none
  n : l.n = cs.length
  opn : l.opn = opn
  room : cs.length ≤ l.room
  blk : ∃ c e, w.heap[l.b]? = some (.cells c e (0, 0)) ∧ (l.o + l.room ≤ c.size ∧ Typed l.opn e c.size l) ∧ ∀ (j : Nat) x y, cs[j]? = some x → c[l.o + j]? = some y → VR σ x y

/-- An object for reading alone. -/
structure FroAt (σ : Sig) (cs : List AV) (opn : Option Nat) (l : Loc) : Prop where
  n : l.n = cs.length
  opn : l.opn = opn
  blk : ∃ c, σ.fro l.b = some c ∧ l.o + cs.length ≤ c.size ∧ ∀ (j : Nat) x y, cs[j]? = some x → c[l.o + j]? = some y → VR σ x y

theorem FroAt.mono {σ τ : Sig} (h : σ.Le τ) {cs : List AV} {opn : Option Nat} {l : Loc} (f : FroAt σ cs opn l) : FroAt τ cs opn l :=
  let ⟨c, h1, h2, h3⟩ := f.blk; ⟨f.n, f.opn, c, h.fro _ _ h1, h2, fun j x y a b => (h3 j x y a b).mono h⟩

/-- A range over a function, as it lies in the world. -/
structure LoopAt (w0 : Guard) (σ : Sig) (w : World) (c : LC) (ts : List AV) (st : LSt) (l : Loc) : Prop where
  base : ¬ w0.p l.b
  blk : ∃ fn t as bd d, c.cp fn as bd ∧ w.heap[l.b]? = some (.loop { state := st.state, pending := st.pend, fn := fn, tmps := t, params := c.ps.toArray, assign := as, body := bd, defers := d }) ∧ VRs σ ts t.toList

/-- The ranges over functions, and the marks that they leave. -/
structure Extra (w0 : Guard) (σ : Sig) (h : Heap) (w : World) : Prop where
  loop : ∀ (i : Nat) c ts st l, h[i]? = some (.loop c ts st) → σ.loc i = some l → LoopAt w0 σ w c ts st l
  lap : ∀ (i j : Nat) c ts st c' ts' st' l m, i ≠ j → h[i]? = some (.loop c ts st) → h[j]? = some (.loop c' ts' st') → σ.loc i = some l → σ.loc j = some m → l.b ≠ m.b
  mrk : ∀ b, σ.mrk b → ¬ w0.p b ∧ w.heap[b]? = some (.deferred (some []))

/-- What is no memory of cells stays. -/
def isNC : Obj → Bool
  | .cells .. => false
  | _ => true
def KeepsNC (w w' : World) : Prop := ∀ (b : Nat) o, w.heap[b]? = some o → isNC o = true → w'.heap[b]? = some o
theorem KeepsNC.same {w w' : World} (h : w'.heap = w.heap) : KeepsNC w w' := fun b o ho _ => by rw [h]; exact ho
theorem KeepsNC.alloc (w : World) (o : Obj) : KeepsNC w (w.alloc o) := fun b x hx _ => by rw [Below.heap_alloc _ _ _ (Array.getElem?_eq_some_iff.1 hx).1]; exact hx
theorem KeepsNC.setCell (w : World) (p : Addr) (u : Value) {c : Array Value} {e : TypeId} {fr : Nat × Nat} (h : w.heap[p.block]? = some (.cells c e fr)) : KeepsNC w (w.setCell p u) := fun b x hx hc => by
  rw [Below.heap_setCell _ _ _ _ (fun q => by rw [q, h] at hx; cases hx; simp [isNC] at hc)]; exact hx

theorem Extra.step {w0 : Guard} {σ τ : Sig} {h h' : Heap} {w w' : World} (x : Extra w0 σ h w) (le : σ.Le τ) (hk : KeepsNC w w')
    (hh : ∀ (i : Nat) c ts st l, h'[i]? = some (.loop c ts st) → τ.loc i = some l → h[i]? = some (.loop c ts st) ∧ σ.loc i = some l) (km : ∀ b, τ.mrk b → σ.mrk b) : Extra w0 τ h' w' := by
  refine ⟨?_, ?_, ?_⟩
  · intro i c ts st l hi hl
    obtain ⟨h1, h2⟩ := hh i c ts st l hi hl
    have L := x.loop i c ts st l h1 h2
    obtain ⟨fn, t, as, bd, d, q1, q2, q3⟩ := L.blk
    exact ⟨L.base, fn, t, as, bd, d, q1, hk _ _ q2 rfl, q3.mono le⟩
  · intro i j c ts st c' ts' st' l m hne hi hj hl hm
    obtain ⟨h1, h2⟩ := hh i c ts st l hi hl
    obtain ⟨h3, h4⟩ := hh j c' ts' st' m hj hm
    exact x.lap i j _ _ _ _ _ _ l m hne h1 h3 h2 h4
  · intro b hb
    obtain ⟨h1, h2⟩ := x.mrk b (km b hb)
    exact ⟨h1, hk _ _ h2 rfl⟩

/-- An object that may be read. -/
def Readable (h : Heap) (i : Nat) (cs : List AV) (opn : Option Nat) : Prop := h[i]? = some (.cells cs opn) ∨ h[i]? = some (.fro cs opn)

theorem Readable.lt {h : Heap} {i : Nat} {cs : List AV} {opn : Option Nat} (r : Readable h i cs opn) : i < h.length := by
  rcases r with r | r <;> exact (List.getElem?_eq_some_iff.1 r).1

structure Sim (w0 : Guard) (σ : Sig) (h : Heap) (w : World) : Prop where
  below : Kept w0 w
  dom : ∀ i, i < h.length → ∃ l, σ.loc i = some l
  dom' : ∀ i l, σ.loc i = some l → i < h.length
  fro : ∀ b c, σ.fro b = some c → ∃ e fr, w.heap[b]? = some (.cells c e fr)
  live : ∀ (i : Nat) cs opn l, h[i]? = some (.cells cs opn) → Real cs opn → σ.loc i = some l → Live w0 σ w cs opn l
  apart : ∀ (i j : Nat) cs ds o o' l m, i ≠ j → h[i]? = some (.cells cs o) → h[j]? = some (.cells ds o') → Real cs o → Real ds o' → σ.loc i = some l → σ.loc j = some m → l.b ≠ m.b
  frz : ∀ (i : Nat) cs opn l, h[i]? = some (.fro cs opn) → Real cs opn → σ.loc i = some l → FroAt σ cs opn l
  hide : ∀ b c, σ.fro b = some c → ¬ w0.x b
  ex : Extra w0 σ h w
  vac : ∀ (i : Nat) opn l, Readable h i [] opn → opn ≠ none → σ.loc i = some l → l.n = 0

theorem Sim.liveAt {w0 : Guard} {w : World} {σ : Sig} {h : Heap} (s : Sim w0 σ h w) {i : Nat} {cs : List AV} {opn : Option Nat} (hi : h[i]? = some (.cells cs opn)) (hr : Real cs opn) :
    ∃ l, σ.loc i = some l ∧ Live w0 σ w cs opn l := by
  obtain ⟨l, hl⟩ := s.dom i (List.getElem?_eq_some_iff.1 hi).1
  exact ⟨l, hl, s.live i cs opn l hi hr hl⟩

theorem Sim.drew {w0 : Guard} {w : World} {σ : Sig} {h : Heap} (s : Sim w0 σ h w) : Sim w0 σ h w.drew :=
  ⟨s.below.drew, s.dom, s.dom', s.fro, fun i cs o l a r b => let k := s.live i cs o l a r b; ⟨k.base, k.nofro, k.n, k.opn, k.room, k.blk⟩, s.apart, s.frz, s.hide, s.ex.step (.refl σ) (.same rfl) (fun _ _ _ _ _ a b => ⟨a, b⟩) (fun _ a => a), s.vac⟩

/-- What an object that may be read holds. -/
theorem Sim.read {w0 : Guard} {w : World} {σ : Sig} {h : Heap} (s : Sim w0 σ h w) {i : Nat} {cs : List AV} {opn : Option Nat} {l : Loc} (r : Readable h i cs opn) (hq : Real cs opn) (hl : σ.loc i = some l) :
    l.n = cs.length ∧ l.opn = opn ∧ ∃ c e fr, w.heap[l.b]? = some (.cells c e fr) ∧ l.o + cs.length ≤ c.size ∧ ∀ (j : Nat) x y, cs[j]? = some x → c[l.o + j]? = some y → VR σ x y := by
  rcases r with r | r
  · have L := s.live i cs opn l r hq hl
    obtain ⟨c, e, hb, hs, hr⟩ := L.blk
    exact ⟨L.n, L.opn, c, e, _, hb, by have := L.room; omega, hr⟩
  · have L := s.frz i cs opn l r hq hl
    obtain ⟨c, hb, hs, hr⟩ := L.blk
    obtain ⟨e, fr, hh⟩ := s.fro _ _ hb
    exact ⟨L.n, L.opn, c, e, fr, hh, hs, hr⟩

theorem Sim.vac0 {w0 : Guard} {w : World} {σ : Sig} {h : Heap} (s : Sim w0 σ h w) {i : Nat} {op : Option Nat} {l : Loc} (r : Readable h i [] op) (hl : σ.loc i = some l) : l.n = 0 := by
  cases op with
  | none => exact (s.read r (.inr rfl) hl).1
  | some q => exact s.vac i _ l r (by simp) hl

/-- A cell of an object of the abstract heap. -/
theorem Sim.cell {w0 : Guard} {w : World} {σ : Sig} {h : Heap} (s : Sim w0 σ h w) {i k : Nat} {cs : List AV} {opn : Option Nat} {x : AV} {l : Loc} (hi : Readable h i cs opn) (hk : cs[k]? = some x)
    (hl : σ.loc i = some l) : ∃ y, w.cell? ⟨l.b, l.o + k, none⟩ = some y ∧ VR σ x y := by
  have hk' : k < cs.length := (List.getElem?_eq_some_iff.1 hk).1
  obtain ⟨_, _, c, e, fr, hb, hs, hr⟩ := s.read hi (.of_lt hk') hl
  have hlt : l.o + k < c.size := by omega
  exact ⟨c[l.o + k], by simp [World.cell?, hb, hlt], hr k x _ hk (by simp [hlt])⟩

theorem Sim.free {w0 : Guard} {w : World} {σ : Sig} {h : Heap} (s : Sim w0 σ h w) {i : Nat} {cs : List AV} {opn : Option Nat} {l : Loc} (hi : h[i]? = some (.cells cs opn)) (hq : Real cs opn) (hl : σ.loc i = some l) (k : Nat) :
    w.frozen? ⟨l.b, k, none⟩ = false := by
  obtain ⟨c, e, hb, _, _⟩ := (s.live i cs opn l hi hq hl).blk
  simp [World.frozen?, hb]

/-- A cell of memory that is only read. -/
theorem Sim.cellFro {w0 : Guard} {w : World} {σ : Sig} {h : Heap} (s : Sim w0 σ h w) {b o k : Nat} {cs : List AV} {c : Array Value} {x : AV} (hb : σ.fro b = some c) (hs : o + cs.length ≤ c.size)
    (hr : ∀ (j : Nat) x y, cs[j]? = some x → c[o + j]? = some y → VR σ x y) (hk : cs[k]? = some x) : ∃ y, w.cell? ⟨b, o + k, none⟩ = some y ∧ VR σ x y := by
  obtain ⟨e, fr, hh⟩ := s.fro b c hb
  have hk' : k < cs.length := (List.getElem?_eq_some_iff.1 hk).1
  have hlt : o + k < c.size := by omega
  exact ⟨c[o + k], by simp [World.cell?, hh, hlt], hr k x _ hk (by simp [hlt])⟩

theorem heap_setCell_at (w : World) (b k : Nat) (u : Value) (c : Array Value) (e : TypeId) (fr : Nat × Nat) (h : w.heap[b]? = some (.cells c e fr)) :
    (w.setCell ⟨b, k, none⟩ u).heap[b]? = some (.cells (c.setIfInBounds k u) e fr) := by
  simp [World.setCell, Array.getElem?_modify, h]

/-- A store into an object of the abstract heap. -/
theorem Sim.store {w0 : Guard} {w : World} {σ : Sig} {h : Heap} (s : Sim w0 σ h w) {i k : Nat} {cs : List AV} {opn : Option Nat} {x : AV} {v : Value} {l : Loc} (hi : h[i]? = some (.cells cs opn)) (hk : k < cs.length)
    (hl : σ.loc i = some l) (hv : VR σ x v) : Sim w0 σ (h.set i (.cells (cs.set k x) opn)) (w.setCell ⟨l.b, l.o + k, none⟩ v) := by
  have hq : Real cs opn := .of_lt hk
  have L := s.live i cs opn l hi hq hl
  have hil : i < h.length := (List.getElem?_eq_some_iff.1 hi).1
  have get : ∀ (j : Nat) ds o, (h.set i (.cells (cs.set k x) opn))[j]? = some (.cells ds o) → (j = i ∧ ds = cs.set k x ∧ o = opn) ∨ (j ≠ i ∧ h[j]? = some (.cells ds o)) := by
    intro j ds o hj
    rw [List.getElem?_set] at hj
    split at hj
    · rename_i e; subst e; simp at hj; exact .inl ⟨rfl, hj.1.symm, hj.2.symm⟩
    · rename_i e; exact .inr ⟨fun q => e q.symm, hj⟩
  refine ⟨s.below.setCell L.base v, by simpa using s.dom, by simpa using s.dom', ?_, ?_, ?_, ?frz, s.hide, ?ex, ?vac⟩
  case vac =>
    intro j op m hj ho hm
    by_cases e : i = j
    · subst e
      rcases hj with hj | hj <;> rw [List.getElem?_set, if_pos rfl, if_pos hil] at hj <;> simp at hj
      have h0 := hj.1
      subst h0; simp at hk
    · refine s.vac j op m ?_ ho hm
      rcases hj with hj | hj <;> rw [List.getElem?_set, if_neg e] at hj
      · exact .inl hj
      · exact .inr hj
  case ex =>
    obtain ⟨c, e, hb, _, _⟩ := L.blk
    refine s.ex.step (.refl σ) (.setCell w ⟨l.b, l.o + k, none⟩ v hb) ?_ (fun _ a => a)
    intro j c ts st m hj hm
    rw [List.getElem?_set] at hj
    split at hj
    · rename_i e; subst e; simp at hj
    · exact ⟨hj, hm⟩
  case frz =>
    intro j ds o m hj hqj hm
    rw [List.getElem?_set] at hj
    split at hj
    · rename_i e; subst e; simp at hj
    · exact s.frz j ds o m hj hqj hm
  · intro b c hb
    obtain ⟨e, fr, hh⟩ := s.fro b c hb
    refine ⟨e, fr, ?_⟩
    rw [Below.heap_setCell _ _ _ _ (fun q => by rw [q] at hb; have := L.nofro; rw [hb] at this; cases this)]
    exact hh
  · intro j ds o m hj hqj hm
    rcases get j ds o hj with ⟨rfl, rfl, rfl⟩ | ⟨hne, hj'⟩
    · rw [hl] at hm; cases hm
      obtain ⟨c, e, hb, hs, hr⟩ := L.blk
      refine ⟨L.base, L.nofro, by simpa using L.n, L.opn, by simpa using L.room, _, e, heap_setCell_at w l.b (l.o + k) v c e _ hb, by simpa using hs, ?_⟩
      intro q y z hy hz
      rw [List.getElem?_set] at hy
      rw [Array.getElem?_setIfInBounds] at hz
      by_cases hq : k = q
      · subst hq
        simp [hk] at hy; subst hy
        have : l.o + k < c.size := by have := L.room; omega
        simp [this] at hz; subst hz
        exact hv
      · rw [if_neg hq] at hy
        rw [if_neg (by omega)] at hz
        exact hr q y z hy hz
    · have M := s.live j ds o m hj' hqj hm
      have hne' : m.b ≠ l.b := s.apart j i ds cs o opn m l hne hj' hi hqj hq hm hl
      obtain ⟨c, e, hb, hs, hr⟩ := M.blk
      exact ⟨M.base, M.nofro, M.n, M.opn, M.room, c, e, by rw [Below.heap_setCell _ _ _ _ hne']; exact hb, hs, hr⟩
  · intro a b ds es o o' m n hab ha hb hqa hqb hm hn
    rcases get a ds o ha with ⟨rfl, _, _⟩ | ⟨ha1, ha2⟩
    · rcases get b es o' hb with ⟨rfl, _, _⟩ | ⟨hb1, hb2⟩
      · exact absurd rfl hab
      · exact s.apart _ _ _ _ _ _ m n hab hi hb2 hq hqb hm hn
    · rcases get b es o' hb with ⟨rfl, _, _⟩ | ⟨hb1, hb2⟩
      · exact s.apart _ _ _ _ _ _ m n hab ha2 hi hqa hq hm hn
      · exact s.apart _ _ _ _ _ _ m n hab ha2 hb2 hqa hqb hm hn

/-- Several stores, one behind the other. -/
def setMany : List AV → Nat → List AV → List AV
  | cs, _, [] => cs
  | cs, k, x :: xs => setMany (cs.set k x) (k + 1) xs

/-- The same, reckoned from the list's head on. -/
def overlay : List AV → Nat → List AV → List AV
  | [], _, _ => []
  | c :: cs, 0, [] => c :: cs
  | _ :: cs, 0, x :: xs => x :: overlay cs 0 xs
  | c :: cs, k + 1, xs => c :: overlay cs k xs
theorem setMany_nil (k : Nat) (xs : List AV) : setMany [] k xs = [] := by
  induction xs generalizing k with
  | nil => rfl
  | cons x xs ih => simp [setMany, ih]
theorem setMany_succ (c : AV) (cs : List AV) (k : Nat) (xs : List AV) : setMany (c :: cs) (k + 1) xs = c :: setMany cs k xs := by
  induction xs generalizing cs k with
  | nil => rfl
  | cons x xs ih => simp [setMany, ih]
theorem overlay_eq : ∀ (cs : List AV) (k : Nat) (xs : List AV), overlay cs k xs = setMany cs k xs
  | [], k, xs => by rw [setMany_nil]; rfl
  | c :: cs, 0, [] => rfl
  | _ :: cs, 0, x :: xs => by rw [overlay, overlay_eq cs 0 xs]; simp only [setMany, List.set_cons_zero]; rw [setMany_succ]
  | c :: cs, k + 1, xs => by rw [setMany_succ, ← overlay_eq cs k xs]; cases xs <;> rfl

theorem setMany_length (cs : List AV) (k : Nat) (xs : List AV) : (setMany cs k xs).length = cs.length := by
  induction xs generalizing cs k with
  | nil => rfl
  | cons x xs ih => simp [setMany, ih]

theorem Sim.weaken {w0 : Guard} {w : World} {σ : Sig} {h h' : Heap} (s : Sim w0 σ h w) (hl : h'.length = h.length) (hc : ∀ (i : Nat) cs o, h'[i]? = some (.cells cs o) → h[i]? = some (.cells cs o))
    (hf : ∀ (i : Nat) cs o, h'[i]? = some (.fro cs o) → h[i]? = some (.fro cs o)) (hp : ∀ (i : Nat) c ts st, h'[i]? = some (.loop c ts st) → h[i]? = some (.loop c ts st)) : Sim w0 σ h' w :=
  ⟨s.below, fun i hi => s.dom i (by omega), fun i l hi => by have := s.dom' i l hi; omega, s.fro, fun i cs o l hi hq hl => s.live i cs o l (hc _ _ _ hi) hq hl,
    fun i j cs ds o o' l m hne hi hj => s.apart i j cs ds o o' l m hne (hc _ _ _ hi) (hc _ _ _ hj), fun i cs o l hi hq hl => s.frz i cs o l (hf _ _ _ hi) hq hl, s.hide, s.ex.step (.refl σ) (.same rfl) (fun i c ts st l a b => ⟨hp _ _ _ _ a, b⟩) (fun _ a => a), fun i op l hi => s.vac i op l (hi.imp (hc _ _ _) (hf _ _ _))⟩

/-- An object that nobody may look at any more. -/
theorem Sim.kill {w0 : Guard} {w : World} {σ : Sig} {h : Heap} (s : Sim w0 σ h w) (i : Nat) : Sim w0 σ (h.set i .dead) w := by
  refine s.weaken (by simp) ?_ ?_ (fun j c ts st hj => ?_) <;> (try intro j cs o hj)
  all_goals
    rw [List.getElem?_set] at hj
    split at hj
    · split at hj <;> simp at hj
    · exact hj

def Sig.ext (σ : Sig) (i : Nat) (l : Loc) : Sig := { σ with loc := fun j => if j = i then some l else σ.loc j }

theorem Sim.le_ext {w0 : Guard} {w : World} {σ : Sig} {h : Heap} (s : Sim w0 σ h w) (l : Loc) : σ.Le (σ.ext h.length l) := by
  refine ⟨?_, fun _ _ x => x, fun _ x => x⟩
  intro i m hm
  have := s.dom' i m hm
  simp [Sig.ext, Nat.ne_of_lt this, hm]

/-- A further name for a piece of memory of the call's own that no live object has. -/
theorem Sim.name {w0 : Guard} {w : World} {σ : Sig} {h : Heap} (s : Sim w0 σ h w) (cs : List AV) (opn : Option Nat) (l : Loc)
    (hL : Live w0 (σ.ext h.length l) w cs opn l) (hap : ∀ (i : Nat) ds o m, h[i]? = some (.cells ds o) → Real ds o → σ.loc i = some m → m.b ≠ l.b) :
    Sim w0 (σ.ext h.length l) (h ++ [.cells cs opn]) w := by
  have hle := s.le_ext l
  have get : ∀ (j : Nat) ds o, (h ++ [AObj.cells cs opn])[j]? = some (.cells ds o) → (j = h.length ∧ ds = cs ∧ o = opn) ∨ (j < h.length ∧ h[j]? = some (.cells ds o)) := by
    intro j ds o hj
    rw [List.getElem?_append] at hj
    split at hj
    · rename_i e; exact .inr ⟨e, hj⟩
    · rename_i e
      have : j - h.length = 0 := by
        cases hq : j - h.length with
        | zero => rfl
        | succ q => rw [hq] at hj; simp at hj
      rw [this] at hj; simp at hj
      exact .inl ⟨by omega, hj.1.symm, hj.2.symm⟩
  have old : ∀ j m, j < h.length → (σ.ext h.length l).loc j = some m → σ.loc j = some m := by
    intro j m hj hm
    simpa [Sig.ext, Nat.ne_of_lt hj] using hm
  have new : ∀ m, (σ.ext h.length l).loc h.length = some m → m = l := by
    intro m hm; simp [Sig.ext] at hm; exact hm.symm
  refine ⟨s.below, ?_, ?_, s.fro, ?_, ?_, ?frz, s.hide, ?ex, ?vac⟩
  case vac =>
    intro j op m hj ho hm
    rcases hj with hj | hj
    · rcases get j [] op hj with ⟨rfl, h1, rfl⟩ | ⟨hlt, hj'⟩
      · rw [new m hm, hL.n, ← h1]; rfl
      · exact s.vac j op m (.inl hj') ho (old _ _ hlt hm)
    · rw [List.getElem?_append] at hj
      split at hj
      · rename_i e; exact s.vac j op m (.inr hj) ho (old _ _ e hm)
      · cases hq : j - h.length with
        | zero => rw [hq] at hj; simp at hj
        | succ q => rw [hq] at hj; simp at hj
  case ex =>
    refine s.ex.step hle (.same rfl) ?_ (fun _ a => a)
    intro j c ts st m hj hm
    rw [List.getElem?_append] at hj
    split at hj
    · rename_i e; exact ⟨hj, old _ _ e hm⟩
    · cases hq : j - h.length with
      | zero => rw [hq] at hj; simp at hj
      | succ q => rw [hq] at hj; simp at hj
  case frz =>
    intro j ds o m hj hqj hm
    rw [List.getElem?_append] at hj
    split at hj
    · rename_i e; exact (s.frz j ds o m hj hqj (old _ _ e hm)).mono hle
    · cases hq : j - h.length with
      | zero => rw [hq] at hj; simp at hj
      | succ q => rw [hq] at hj; simp at hj
  · intro i hi
    by_cases e : i = h.length
    · exact ⟨l, by simp [Sig.ext, e]⟩
    · obtain ⟨m, hm⟩ := s.dom i (by simp at hi; omega)
      exact ⟨m, hle.loc _ _ hm⟩
  · intro i m hm
    by_cases e : i = h.length
    · simp [e]
    · have : σ.loc i = some m := by simpa [Sig.ext, e] using hm
      have := s.dom' _ _ this
      simp; omega
  · intro j ds o m hj hqj hm
    rcases get j ds o hj with ⟨rfl, rfl, rfl⟩ | ⟨hlt, hj'⟩
    · rw [new m hm]; exact hL
    · have M := s.live j ds o m hj' hqj (old _ _ hlt hm)
      obtain ⟨c, e, hb, hs, hr⟩ := M.blk
      exact ⟨M.base, M.nofro, M.n, M.opn, M.room, c, e, hb, hs, fun q y z a b => (hr q y z a b).mono hle⟩
  · intro a b ds es o o' m n hab ha hb hqa hqb hm hn
    rcases get a ds o ha with ⟨rfl, _, _⟩ | ⟨ha1, ha2⟩
    · rcases get b es o' hb with ⟨rfl, _, _⟩ | ⟨hb1, hb2⟩
      · exact absurd rfl hab
      · rw [new m hm]; exact fun q => hap b es o' n hb2 hqb (old _ _ hb1 hn) q.symm
    · rcases get b es o' hb with ⟨rfl, _, _⟩ | ⟨hb1, hb2⟩
      · rw [new n hn]; exact hap a ds o m ha2 hqa (old _ _ ha1 hm)
      · exact s.apart _ _ _ _ _ _ m n hab ha2 hb2 hqa hqb (old _ _ ha1 hm) (old _ _ hb1 hn)

/-- The world grows by a block: what was related stays so. -/
theorem Sim.grow {w0 : Guard} {w : World} {σ : Sig} {h : Heap} (s : Sim w0 σ h w) (o : Obj) : Sim w0 σ h (w.alloc o) := by
  have keep : ∀ (k : Nat) x, w.heap[k]? = some x → (w.alloc o).heap[k]? = some x := by
    intro k x hk
    have : k < w.heap.size := (Array.getElem?_eq_some_iff.1 hk).1
    rw [Below.heap_alloc _ _ _ this]; exact hk
  refine ⟨s.below.alloc o, s.dom, s.dom', ?_, ?_, s.apart, s.frz, s.hide, s.ex.step (.refl σ) (.alloc w o) (fun _ _ _ _ _ a b => ⟨a, b⟩) (fun _ a => a), s.vac⟩
  · intro b c hb
    obtain ⟨e, fr, hh⟩ := s.fro b c hb
    exact ⟨e, fr, keep _ _ hh⟩
  · intro i cs op l hi hq hl
    have M := s.live i cs op l hi hq hl
    obtain ⟨c, e, hb, hs, hr⟩ := M.blk
    exact ⟨M.base, M.nofro, M.n, M.opn, M.room, c, e, keep _ _ hb, hs, hr⟩

theorem Sim.blt {w0 : Guard} {w : World} {σ : Sig} {h : Heap} (s : Sim w0 σ h w) {i : Nat} {cs : List AV} {opn : Option Nat} {l : Loc} (hi : h[i]? = some (.cells cs opn)) (hq : Real cs opn) (hl : σ.loc i = some l) : l.b < w.heap.size := by
  obtain ⟨c, e, hb, _, _⟩ := (s.live i cs opn l hi hq hl).blk
  exact (Array.getElem?_eq_some_iff.1 hb).1

/-- A new block. -/
theorem Sim.new {w0 : Guard} {w : World} {σ : Sig} {h : Heap} (s : Sim w0 σ h w) (cs : List AV) (opn : Option Nat) (c : Array Value) (e : TypeId) (hlen : cs.length ≤ c.size) (hc : ∀ (j : Nat) x y, cs[j]? = some x → c[j]? = some y → VR σ x y) (hty : Typed opn e c.size ⟨w.heap.size, 0, c.size, cs.length, opn⟩) :
    let l : Loc := ⟨w.heap.size, 0, c.size, cs.length, opn⟩
    Sim w0 (σ.ext h.length l) (h ++ [.cells cs opn]) (w.alloc (.cells c e)) ∧ σ.Le (σ.ext h.length l) := by
  intro l
  have s' := s.grow (.cells c e)
  have hle := s'.le_ext l
  refine ⟨s'.name cs opn l ?_ ?_, hle⟩
  · refine ⟨fun hp => by have := (s.below.block _ hp).1; have := s.below.size; simp only [l] at *; omega, ?_, rfl, rfl, hlen, c, e, ?_, ⟨by simp [l], hty⟩, ?_⟩
    · cases hf : σ.fro w.heap.size with
      | none => exact hf
      | some d =>
        obtain ⟨e', fr, hh⟩ := s.fro _ _ hf
        have := (Array.getElem?_eq_some_iff.1 hh).1
        omega
    · show (w.heap.push (.cells c e))[w.heap.size]? = _
      simp
    · intro j x y hx hy
      simp [l] at hy
      exact (hc j x y hx hy).mono hle
  · intro i ds o m hi hq hm
    have := s.blt hi hq hm
    show m.b ≠ w.heap.size
    omega

end Go.Proofs.YtginchgkbgcimaaDoor.AL
