/- The operations over the abstract states: memory. -/
import Derived.Test.YtginchgkbgcimaaDoorAops
namespace Go.Proofs.YtginchgkbgcimaaDoor.AL
open Go Go.RowKit

/-! ### objects looked up and laid down: names that the reckoning does not open -/
/-- An object's cells, if it may be read. -/
def rdObj : Option AObj → Option (List AV × Option Nat)
  | some (.cells cs o) => some (cs, o)
  | some (.fro cs o) => some (cs, o)
  | _ => none

theorem rdObj_some {h : Heap} {i : Nat} {cs : List AV} {o : Option Nat} : rdObj h[i]? = some (cs, o) ↔ Readable h i cs o := by
  unfold Readable
  cases h[i]? with
  | none => simp [rdObj]
  | some x => cases x <;> simp [rdObj]

def withCells (o : Option AObj) (K : List AV → Option Nat → Prop) : Prop := match o with | some (.cells cs op) => K cs op | _ => False
def withRead (o : Option AObj) (K : List AV → Option Nat → Prop) : Prop := match o with | some (.cells cs op) => K cs op | some (.fro cs op) => K cs op | _ => False

/-- The heap, its spine written out. -/
def forceH : Heap → (Heap → Prop) → Prop
  | [], K => K []
  | x :: xs, K => forceH xs fun ys => K (x :: ys)
theorem forceH_eq (l : Heap) (K : Heap → Prop) : forceH l K = K l := by
  induction l generalizing K with
  | nil => rfl
  | cons x xs ih => simp only [forceH, ih]
/-- A small number, written out. -/
def forceN (n : Nat) (K : Nat → Prop) : Prop :=
  match n with
  | 0 => K 0 | 1 => K 1 | 2 => K 2 | 3 => K 3 | 4 => K 4 | 5 => K 5 | 6 => K 6 | 7 => K 7 | 8 => K 8 | 9 => K 9 | 10 => K 10 | 11 => K 11 | 12 => K 12 | 13 => K 13 | 14 => K 14 | 15 => K 15
  | 16 => K 16 | 17 => K 17 | 18 => K 18 | 19 => K 19 | 20 => K 20 | 21 => K 21 | 22 => K 22 | 23 => K 23 | 24 => K 24 | 25 => K 25 | 26 => K 26 | 27 => K 27 | 28 => K 28 | 29 => K 29 | 30 => K 30 | 31 => K 31
  | n => K n
theorem forceN_eq (n : Nat) (K : Nat → Prop) : forceN n K = K n := by unfold forceN; split <;> rfl

def withSet (h : Heap) (i : Nat) (o : AObj) (K : Heap → Prop) : Prop := forceH (h.set i o) K
/-- A further object. -/
def withNew (h : Heap) (o : AObj) (K : Nat → Heap → Prop) : Prop := forceN h.length fun n => forceH (h ++ [o]) fun h' => K n h'

theorem withCells_elim {o : Option AObj} {K : List AV → Option Nat → Prop} (h : withCells o K) : ∃ cs op, o = some (.cells cs op) ∧ K cs op := by
  unfold withCells at h
  split at h
  · exact ⟨_, _, rfl, h⟩
  · exact h.elim
theorem withCells_mk {o : Option AObj} {K : List AV → Option Nat → Prop} {cs : List AV} {op : Option Nat} (h : o = some (.cells cs op)) (k : K cs op) : withCells o K := by rw [h]; exact k
theorem withRead_elim {h : Heap} {i : Nat} {K : List AV → Option Nat → Prop} (q : withRead h[i]? K) : ∃ cs op, Readable h i cs op ∧ K cs op := by
  unfold withRead at q
  split at q
  · rename_i e; exact ⟨_, _, .inl e, q⟩
  · rename_i e; exact ⟨_, _, .inr e, q⟩
  · exact q.elim
theorem withRead_mk {h : Heap} {i : Nat} {K : List AV → Option Nat → Prop} {cs : List AV} {op : Option Nat} (e : Readable h i cs op) (k : K cs op) : withRead h[i]? K := by
  rcases e with e | e <;> rw [e] <;> exact k
theorem withSet_elim {h : Heap} {i : Nat} {o : AObj} {K : Heap → Prop} (q : withSet h i o K) : K (h.set i o) := by unfold withSet at q; rwa [forceH_eq] at q
theorem withNew_elim {h : Heap} {o : AObj} {K : Nat → Heap → Prop} (q : withNew h o K) : K h.length (h ++ [o]) := by unfold withNew at q; rwa [forceN_eq, forceH_eq] at q
theorem withNew_mk {h : Heap} {o : AObj} {K : Nat → Heap → Prop} (q : K h.length (h ++ [o])) : withNew h o K := by unfold withNew; rwa [forceN_eq, forceH_eq]
theorem withSet_mk {h : Heap} {i : Nat} {o : AObj} {K : Heap → Prop} (q : K (h.set i o)) : withSet h i o K := by unfold withSet; rwa [forceH_eq]

/-! ### loads -/
/-- The value, its head written out. -/
def forceV (v : AV) (K : AV → Prop) : Prop :=
  match v with
  | .wild => K .wild
  | .bool b => K (.bool b)
  | .int k n => K (.int k n)
  | .str s => K (.str s)
  | .lit v => K (.lit v)
  | .agg cs => K (.agg cs)
  | .tup vs => K (.tup vs)
  | .ptr i k => K (.ptr i k)
  | .iptr cs k => K (.iptr cs k)
  | .aptr i k j s o => K (.aptr i k j s o)
  | .slice i k l c => K (.slice i k l c)
  | .islice e n cs => K (.islice e n cs)
  | .fn f a c => K (.fn f a c)
  | .iface t x => K (.iface t x)
  | .yld i => K (.yld i)

theorem forceV_eq (v : AV) (K : AV → Prop) : forceV v K = K v := by cases v <;> rfl

/-- Values, written out. -/
def forceVs : List AV → (List AV → Prop) → Prop
  | [], K => K []
  | x :: xs, K => forceV x fun v => forceVs xs fun vs => K (v :: vs)

theorem forceVs_eq (l : List AV) (K : List AV → Prop) : forceVs l K = K l := by
  induction l generalizing K with
  | nil => rfl
  | cons x xs ih => simp only [forceVs, forceV_eq, ih]

/-- The list, written out. -/
def forceL : List AV → (List AV → Prop) → Prop
  | [], K => K []
  | x :: xs, K => forceL xs fun ys => K (x :: ys)

theorem forceL_eq (l : List AV) (K : List AV → Prop) : forceL l K = K l := by
  induction l generalizing K with
  | nil => rfl
  | cons x xs ih => simp only [forceL, ih]

def isAggT (P : Program) (t : TypeId) : Bool := match P.underlying t with | some (.struct _) | some (.array _ _) => true | _ => false
def tsize (P : Program) (t : TypeId) : Nat := P.cellsOf t

theorem run_isAgg' {P : Program} {t : TypeId} (w : World) (h : (P.underlying t).isSome = true) : (isAgg t).run P w = .ok (isAggT P t) w := by
  obtain ⟨d, hd⟩ := Option.isSome_iff_exists.1 h
  simp only [isAgg, isAggT, Sem.run_bind, run_underlying hd, Result.andThen_ok, hd]
  cases d <;> rfl

theorem run_sizeOf' {P : Program} {t : TypeId} (w : World) (h : (P.info? t).isSome = true) : (sizeOf t).run P w = .ok (tsize P t) w := by
  obtain ⟨d, hd⟩ := Option.isSome_iff_exists.1 h
  simp [sizeOf, typeInfo, tsize, Program.cellsOf, hd]

/-- The cells that a pointer leads to, from its place on. -/
def cellsAt (h : Heap) : AV → List AV
  | .ptr i k => match rdObj h[i]? with | some (cs, _) => cs.drop k | _ => []
  | .aptr i k j s o => match rdObj h[i]? with | some (cs, _) => cs.drop (k + j * s + o) | _ => []
  | .iptr cs k => cs.drop k
  | _ => []

/-- One cell behind a pointer. -/
def cellAt (h : Heap) : AV → Option AV
  | .ptr i k => match rdObj h[i]? with | some (cs, _) => cs[k]? | _ => none
  | .aptr i k j s o => match rdObj h[i]? with | some (cs, _) => cs[k + j * s + o]? | _ => none
  | .iptr cs k => cs[k]?
  | _ => none

theorem cellsAt_get (h : Heap) (x : AV) (j : Nat) (k0 : AV) : (cellsAt h x)[j]? = some k0 →
    (∃ i k cs o, (x = .ptr i k ∨ ∃ k0 j0 s0 o0, x = .aptr i k0 j0 s0 o0 ∧ k = k0 + j0 * s0 + o0) ∧ Readable h i cs o ∧ cs[k + j]? = some k0) ∨ (∃ cs k, x = .iptr cs k ∧ cs[k + j]? = some k0) := by
  intro hj
  unfold cellsAt at hj
  split at hj
  · rename_i i k
    cases hi : rdObj h[i]? with
    | none => rw [hi] at hj; simp at hj
    | some o => obtain ⟨cs, o⟩ := o; rw [hi] at hj; exact .inl ⟨i, k, cs, o, .inl rfl, rdObj_some.1 hi, by simpa using hj⟩
  · rename_i i k j0 s0 o0
    cases hi : rdObj h[i]? with
    | none => rw [hi] at hj; simp at hj
    | some o => obtain ⟨cs, o⟩ := o; rw [hi] at hj; exact .inl ⟨i, _, cs, o, .inr ⟨k, j0, s0, o0, rfl, rfl⟩, rdObj_some.1 hi, by simpa using hj⟩
  · rename_i cs k; exact .inr ⟨cs, k, rfl, by simpa using hj⟩
  · simp at hj

theorem cellAt_eq (h : Heap) (x : AV) : cellAt h x = (cellsAt h x)[0]? := by
  cases x <;> simp [cellAt, cellsAt]
  case ptr i k => cases rdObj h[i]? <;> simp
  case aptr i k j s o => cases rdObj h[i]? <;> simp

/-- What is behind a pointer is there in the world. -/
theorem Sim.behind {w0 : Guard} {w : World} {σ : Sig} {h : Heap} (s : Sim w0 σ h w) {x : AV} {v : Value} (r : VR σ x v) (hne : cellsAt h x ≠ []) :
    ∃ a, v = .pointer (some a) ∧ ∀ (j : Nat) k0, (cellsAt h x)[j]? = some k0 → ∃ y, w.cell? (a.add j) = some y ∧ VR σ k0 y := by
  cases r with
  | ptr i k l hl =>
    refine ⟨_, rfl, ?_⟩
    intro j k0 hj
    rcases cellsAt_get h _ j k0 hj with ⟨i', k', cs, o, e | ⟨_, _, _, _, e, _⟩, hi, hk⟩ | ⟨cs, k', e, _⟩
    · cases e
      have := s.cell hi hk hl
      rw [Addr.add_lit, Nat.add_assoc]; exact this
    · cases e
    · cases e
  | aptr i k j0 s0 o0 l hl =>
    refine ⟨_, rfl, ?_⟩
    intro j k0 hj
    rcases cellsAt_get h _ j k0 hj with ⟨i', k', cs, o, e | ⟨_, _, _, _, e, rfl⟩, hi, hk⟩ | ⟨cs, k', e, _⟩
    · cases e
    · cases e
      have := s.cell hi hk hl
      rw [Addr.add_lit, Nat.add_assoc]; exact this
    · cases e
  | iptr cs k b o c hb hs hr =>
    refine ⟨_, rfl, ?_⟩
    intro j k0 hj
    rcases cellsAt_get h _ j k0 hj with ⟨i', k', cs, o, e | ⟨_, _, _, _, e, _⟩, hi, hk⟩ | ⟨cs', k', e, hk⟩
    · cases e
    · cases e
    · cases e
      have := s.cellFro hb hs hr hk
      rw [Addr.add_lit, Nat.add_assoc]; exact this
  | _ => exact absurd rfl hne

theorem run_loadCells_VRs {P : Program} {σ : Sig} {w : World} {a : Addr} {xs : List AV} (h : ∀ (j : Nat) k0, xs[j]? = some k0 → ∃ y, w.cell? (a.add j) = some y ∧ VR σ k0 y) :
    ∃ ds : Array Value, (loadCells a xs.length).run P w = .ok ds w ∧ VRs σ xs ds.toList := by
  refine ⟨((List.range xs.length).map fun j => (w.cell? (a.add j)).getD undef).toArray, ?_, ?_⟩
  · refine run_loadCells w a xs.length (fun j => (w.cell? (a.add j)).getD undef) ?_
    intro j hj
    obtain ⟨y, hy, _⟩ := h j xs[j] (by simp [hj])
    simp [hy]
  · refine ⟨by simp, ?_⟩
    intro j x y hx hy
    obtain ⟨z, hz, hr⟩ := h j x hx
    have hj : j < xs.length := (List.getElem?_eq_some_iff.1 hx).1
    simp [hj, hz] at hy
    subst hy; exact hr

def vcLoadC (cs : List AV) (k : Nat) (n : Option Nat) (K : AV → Prop) : Prop :=
  match n with
  | none => match cs[k]? with | some v => K v | none => False
  | some m => req (decide (0 < m) && decide (m ≤ (cs.drop k).length)) (forceL ((cs.drop k).take m) fun l => K (.agg l))

/-- A load out of a list's element: cells, where they begin, the element's number, its size, the place in it. -/
structure wald (cs : List AV) (k j s o : Nat) (n : Option Nat) (K : AV → Prop) : Prop where
  out : vcLoadC cs (k + j * s + o) n K

def vcLoad (h : Heap) (x : AV) (n : Option Nat) (K : AV → Prop) : Prop :=
  match x with
  | .ptr i k => withRead h[i]? fun cs _ => vcLoadC cs k n K
  | .iptr cs k => vcLoadC cs k n K
  | .aptr i k j s o => withRead h[i]? fun cs _ => wald cs k j s o n K
  | _ => False

theorem vcLoad_old {h : Heap} {x : AV} {n : Option Nat} {K : AV → Prop} (v : vcLoad h x n K) :
    match n with | none => (match cellAt h x with | some v => K v | none => False) | some m => 0 < m ∧ m ≤ (cellsAt h x).length ∧ K (.agg ((cellsAt h x).take m)) := by
  cases x <;> first | (exact v.elim) | skip
  case iptr =>
    cases n <;> simp only [vcLoad, vcLoadC, cellAt, cellsAt] at v ⊢
    · exact v
    · obtain ⟨q, v⟩ := req_elim v
      rw [forceL_eq] at v
      simp only [Bool.and_eq_true, decide_eq_true_eq] at q
      exact ⟨q.1, q.2, v⟩
  all_goals
    simp only [vcLoad] at v
    obtain ⟨cs, o, hi, v⟩ := withRead_elim v
    rw [← rdObj_some] at hi
    try replace v := v.out
    cases n <;> simp only [vcLoadC, cellAt, cellsAt, hi] at v ⊢
    · exact v
    · obtain ⟨q, v⟩ := req_elim v
      rw [forceL_eq] at v
      simp only [Bool.and_eq_true, decide_eq_true_eq] at q
      exact ⟨q.1, q.2, v⟩

def chkLoad (P : Program) (t : TypeId) (n : Option Nat) : Bool :=
  (P.underlying t).isSome && match n with | none => !isAggT P t | some m => isAggT P t && (P.info? t).isSome && tsize P t == m

theorem vcLoad_val {P : Program} {w0 : Guard} {w : World} {σ : Sig} {h : Heap} (s : Sim w0 σ h w) {x : AV} {vx : Value} {n : Option Nat} {t : TypeId} {K : AV → Prop} (hc : chkLoad P t n = true) (hx : VR σ x vx)
    (v : vcLoad h x n K) : (∃ a, vx = .pointer (some a)) ∧ ∃ y v', (Instr.loadAt t vx).run P w = .ok v' w ∧ VR σ y v' ∧ K y := by
  replace v := vcLoad_old v
  unfold chkLoad at hc
  simp only [Bool.and_eq_true] at hc
  obtain ⟨hu, hc⟩ := hc
  cases n with
  | none =>
    simp only [Bool.not_eq_true'] at hc
    simp only [cellAt_eq] at v
    cases h0 : (cellsAt h x)[0]? with
    | none => rw [h0] at v; exact v.elim
    | some y =>
      rw [h0] at v
      obtain ⟨a, rfl, hr⟩ := s.behind hx (by intro e; rw [e] at h0; simp at h0)
      obtain ⟨z, hz, hr⟩ := hr 0 y h0
      rw [Addr.add_zero'] at hz
      simp only [Instr.loadAt, Instr.sureAddr, loadVar, Sem.run_bind, Sem.run_pure, Result.andThen_ok, run_isAgg' w hu, hc, Bool.false_eq_true, if_false, run_load, hz]
      exact ⟨⟨_, rfl⟩, _, _, rfl, hr, v⟩
  | some m =>
    simp only [Bool.and_eq_true, beq_iff_eq] at hc
    obtain ⟨⟨hag, hi⟩, rfl⟩ := hc
    obtain ⟨h0, hm, v⟩ := v
    obtain ⟨a, rfl, hr⟩ := s.behind hx (by intro e; rw [e] at hm; simp at hm; omega)
    obtain ⟨ds, hrun, hds⟩ := run_loadCells_VRs (P := P) (σ := σ) (w := w) (a := a) (xs := (cellsAt h x).take (tsize P t)) (by
      intro j k0 hj
      refine hr j k0 ?_
      rw [List.getElem?_take] at hj
      split at hj
      · exact hj
      · simp at hj)
    rw [List.length_take, Nat.min_eq_left hm] at hrun
    simp only [Instr.loadAt, Instr.sureAddr, loadVar, Sem.run_bind, Sem.run_pure, Result.andThen_ok, run_isAgg' w hu, hag, if_true, run_sizeOf' w hi, hrun]
    exact ⟨⟨_, rfl⟩, _, _, rfl, .agg _ _ (by simpa using hds.len) (by intro j x y a b; exact hds.at_ j x y a (by simpa using b)), v⟩

theorem vcLoad_sound {P : Program} {w0 : Guard} {w : World} {σ : Sig} {h : Heap} (s : Sim w0 σ h w) {x : AV} {vx : Value} {n : Option Nat} {t : TypeId} {K : Cont} (hc : chkLoad P t n = true) (hx : VR σ x vx)
    (v : vcLoad h x n fun r => K r h) : Good w0 σ K ((Instr.loadAt t vx).run P w) := by
  obtain ⟨_, y, v', hr, hy, k⟩ := vcLoad_val s hc hx v
  rw [hr]
  exact Good.same s hy k

/-! ### stores -/
theorem set_self {α : Type} (l : List α) (i : Nat) (x : α) (h : l[i]? = some x) : l.set i x = l := by
  apply List.ext_getElem?
  intro j
  rw [List.getElem?_set]
  by_cases e : i = j
  · subst e
    have := (List.getElem?_eq_some_iff.1 h).1
    simp [this]
    simpa using (List.getElem?_eq_some_iff.1 h).2.symm
  · simp [e]
theorem run_storeCells {P : Program} {w0 : Guard} {σ : Sig} {opn : Option Nat} {l : Loc} {i : Nat} (hl : σ.loc i = some l) :
    ∀ (xs : List AV) (vs : List Value) (h : Heap) (w : World) (cs : List AV) (k j : Nat), Sim w0 σ h w → VRs σ xs vs → xs.all AV.isCell = true → h[i]? = some (.cells cs opn) → k + j + xs.length ≤ cs.length →
      ∃ w', (storeCells ⟨l.b, l.o + k, none⟩ vs j).run P w = .ok () w' ∧ Sim w0 σ (h.set i (.cells (setMany cs (k + j) xs) opn)) w'
  | [], vs, h, w, cs, k, j, s, hv, _, hi, _ => by
    have : vs = [] := by have := hv.len; simp at this; exact List.length_eq_zero_iff.1 this.symm
    subst this
    refine ⟨w, by simp [storeCells], ?_⟩
    rw [setMany, set_self _ _ _ hi]
    exact s
  | x :: xs, vs, h, w, cs, k, j, s, hv, hc, hi, hle => by
    cases vs with
    | nil => have := hv.len; simp at this
    | cons v vs =>
      simp only [List.all_cons, Bool.and_eq_true] at hc
      simp only [List.length_cons] at hle
      have hvx : VR σ x v := hv.at_ 0 x v rfl rfl
      have hvs : VRs σ xs vs := ⟨by have := hv.len; simpa using this, fun q a b ha hb => hv.at_ (q + 1) a b (by simpa using ha) (by simpa using hb)⟩
      have hk : k + j < cs.length := by omega
      have s1 := s.store hi hk hl hvx
      obtain ⟨y, hy, _⟩ := s.cell (.inl hi) (List.getElem?_eq_getElem hk) hl
      have hi' : (h.set i (.cells (cs.set (k + j) x) opn))[i]? = some (.cells (cs.set (k + j) x) opn) := by
        have : i < h.length := (List.getElem?_eq_some_iff.1 hi).1
        simp [this]
      obtain ⟨w', hrun, s'⟩ := run_storeCells hl xs vs _ _ (cs.set (k + j) x) k (j + 1) s1 hvs hc.2 hi' (by simp; omega)
      refine ⟨w', ?_, ?_⟩
      · simp only [storeCells, Sem.run_bind]
        rw [run_store P w _ v .plain (hvx.oneCell hc.1)]
        rw [Addr.add_lit, Nat.add_assoc, hy]
        simp only [s.free hi (.of_lt hk) hl, Bool.false_eq_true, if_false, Result.andThen_ok]
        exact hrun
      · simp only [setMany]
        rw [← Nat.add_assoc] at s'
        simpa using s'

/-- A value's cells may be laid into n cells of memory. -/
def fits (v : AV) (n : Nat) : Prop := v.cellList.length = n ∧ v.cellList.all AV.isCell = true

/-- A value's cells, its head written out. -/
def storeV (v : AV) (K : List AV → Prop) : Prop := match v with | .agg cs => K cs | v => forceV v fun v => K [v]

theorem storeV_eq (v : AV) (K : List AV → Prop) : storeV v K = K v.cellList := by cases v <;> rfl

/-- A store into a list's element. -/
structure wast (cs : List AV) (k j s o n : Nat) (v : AV) (K : List AV → Prop) : Prop where
  out : req ((v.cellList.length == n) && v.cellList.all AV.isCell && decide (k + j * s + o + n ≤ cs.length)) (K (setMany cs (k + j * s + o) v.cellList))

/-- So many cells, all of them written out. -/
def lenIs : List AV → Nat → Bool
  | [], 0 => true
  | _ :: cs, n + 1 => lenIs cs n
  | _, _ => false
theorem lenIs_eq : ∀ {cs : List AV} {n : Nat}, lenIs cs n = true → cs.length = n
  | [], 0, _ => rfl
  | _ :: cs, n + 1, h => by rw [List.length_cons, lenIs_eq (cs := cs) h]
  | [], _ + 1, h => by simp [lenIs] at h
  | _ :: _, 0, h => by simp [lenIs] at h
theorem setMany_end (xs : List AV) : ∀ (a cs : List AV), xs.length = cs.length → setMany (a ++ cs) a.length xs = a ++ xs := by
  induction xs with
  | nil => intro a cs h; have : cs = [] := List.length_eq_zero_iff.1 h.symm; subst this; rfl
  | cons x xs ih =>
    intro a cs h
    cases cs with
    | nil => simp at h
    | cons c cs =>
      simp only [setMany]
      have := ih (a ++ [x]) cs (by simpa using h)
      simp only [List.length_append, List.length_cons, List.length_nil, Nat.zero_add, List.append_assoc, List.singleton_append] at this
      rw [List.set_append_right _ _ (Nat.le_refl _), Nat.sub_self, List.set_cons_zero]
      exact this
theorem setMany_whole {xs cs : List AV} (h : xs.length = cs.length) : setMany cs 0 xs = xs := by have := setMany_end xs [] cs h; simpa using this

def vcStore (h : Heap) (x v : AV) (n : Nat) (K : Heap → Prop) : Prop :=
  match x with
  | .ptr i k => withCells h[i]? fun cs o => req ((v.cellList.length == n) && v.cellList.all AV.isCell && decide (k + n ≤ cs.length)) (storeV v fun xs => bcase (k == 0 && lenIs cs n) (withSet h i (.cells xs o) K) (withSet h i (.cells (overlay cs k xs) o) K))
  | .aptr i k j s o => withCells h[i]? fun cs op => forceV v fun v => wast cs k j s o n v fun cs' => withSet h i (.cells cs' op) K
  | _ => False

def chkSize (P : Program) (t : TypeId) (n : Nat) : Bool := (P.info? t).isSome && tsize P t == n

theorem fits_size {σ : Sig} {v : AV} {u : Value} (hv : VR σ v u) {n : Nat} (h : fits v n) : u.cells.size = n := by
  have := (hv.cellsList h.2).len
  rw [h.1] at this
  simpa using this.symm

theorem vcStore_sound {P : Program} {w0 : Guard} {w : World} {σ : Sig} {h : Heap} (s : Sim w0 σ h w) {x v : AV} {vx vv : Value} {n : Nat} {t : TypeId} {K : Heap → Prop} (hc : chkSize P t n = true) (hx : VR σ x vx) (hv : VR σ v vv)
    (q : vcStore h x v n K) : ∃ w' h', (Instr.storeAt t vx vv).run P w = .ok () w' ∧ K h' ∧ Sim w0 σ h' w' := by
  have main : ∀ i k cs o, h[i]? = some (.cells cs o) → ((v.cellList.length == n) && v.cellList.all AV.isCell && decide (k + n ≤ cs.length)) = true → K (h.set i (.cells (setMany cs k v.cellList) o)) →
      (∃ l, σ.loc i = some l ∧ vx = .pointer (some ⟨l.b, l.o + k, none⟩)) → ∃ w' h', (Instr.storeAt t vx vv).run P w = .ok () w' ∧ K h' ∧ Sim w0 σ h' w' := by
    rintro i k cs o hi q0 hK ⟨l, hl, rfl⟩
    simp only [Bool.and_eq_true, decide_eq_true_eq, beq_iff_eq] at q0
    obtain ⟨⟨q1, q2⟩, hk⟩ := q0
    have hf : fits v n := ⟨q1, q2⟩
    simp only [chkSize, Bool.and_eq_true, beq_iff_eq] at hc
    obtain ⟨w', hrun, s'⟩ := run_storeCells (P := P) hl v.cellList vv.cells.toList h w cs k 0 s (hv.cellsList hf.2) hf.2 hi (by rw [hf.1]; omega)
    refine ⟨w', _, ?_, hK, s'⟩
    have hsz := fits_size hv hf
    simp only [Instr.storeAt, Instr.sureAddr, storeVar, Sem.run_bind, Sem.run_pure, Result.andThen_ok, run_sizeOf' w hc.1, hc.2, hsz, ne_eq, not_true_eq_false, if_false]
    exact hrun
  unfold vcStore at q
  split at q
  · rename_i i k
    obtain ⟨cs, o, hi, q⟩ := withCells_elim q
    obtain ⟨q0, hK⟩ := req_elim q
    rw [storeV_eq] at hK
    have hK' : K (h.set i (.cells (setMany cs k v.cellList) o)) := by
      cases hb : (k == 0 && lenIs cs n)
      · rw [hb] at hK; simp only [bcase, overlay_eq] at hK; exact withSet_elim hK
      · rw [hb] at hK
        simp only [Bool.and_eq_true, beq_iff_eq, decide_eq_true_eq] at hb q0
        obtain ⟨rfl, hb⟩ := hb
        rw [setMany_whole (by rw [lenIs_eq hb]; exact q0.1.1)]
        exact withSet_elim hK
    cases hx with
    | ptr _ _ l hl => exact main i k cs o hi q0 hK' ⟨l, hl, rfl⟩
  · rename_i i k j s o
    obtain ⟨cs, op, hi, q⟩ := withCells_elim q
    rw [forceV_eq] at q
    obtain ⟨q0, hK⟩ := req_elim q.out
    replace hK := withSet_elim hK
    cases hx with
    | aptr _ _ _ _ _ l hl => exact main i _ cs op hi q0 hK ⟨l, hl, rfl⟩
  · exact q.elim

/-! ### new memory -/
theorem Good.new {w0 : Guard} {w : World} {σ : Sig} {h : Heap} {K : Cont} (s : Sim w0 σ h w) (cs : List AV) (opn : Option Nat) (c : Array Value) (e : TypeId) (hc : VRs σ cs c.toList) (hty : Typed opn e c.size ⟨w.heap.size, 0, c.size, cs.length, opn⟩)
    (k : withNew h (.cells cs opn) fun i h' => K (.ptr i 0) h') : Good w0 σ K (.ok (.pointer (some ⟨w.heap.size, 0, none⟩)) (w.alloc (.cells c e))) := by
  have := s.new cs opn c e (by have := hc.len; simp at this; omega) (fun j x y a b => hc.at_ j x y a (by simpa using b)) hty
  obtain ⟨s', le⟩ := this
  exact ⟨_, _, _, _, _, rfl, .ptr h.length 0 ⟨w.heap.size, 0, c.size, cs.length, opn⟩ (if_pos rfl), withNew_elim k, s', le⟩

theorem Good.newSlice {w0 : Guard} {w : World} {σ : Sig} {h : Heap} {K : Cont} (s : Sim w0 σ h w) (cs : List AV) (c : Array Value) (e : TypeId) (len cap : Nat) (hl : len ≤ cap) (hc : VRs σ cs c.toList)
    (k : withNew h (.cells cs none) fun i h' => K (.slice i 0 len cap) h') : Good w0 σ K (.ok (.slice (some ⟨w.heap.size, 0, none⟩) len cap) (w.alloc (.cells c e))) := by
  have := s.new cs none c e (by have := hc.len; simp at this; omega) (fun j x y a b => hc.at_ j x y a (by simpa using b)) typed_none
  obtain ⟨s', le⟩ := this
  exact ⟨_, _, _, _, _, rfl, .slice h.length 0 len cap cap ⟨w.heap.size, 0, c.size, cs.length, none⟩ (if_pos rfl) hl (.inl rfl), withNew_elim k, s', le⟩

/-- The zero value's cells, as they stand in the types' table. -/
def chkZero (P : Program) (t : TypeId) (zs : List AV) : Bool :=
  match (P.info? t).bind (·.zero) with
  | some z => zs.length == z.cells.size && (zs.zip z.cells.toList).all fun (x, v) => eqPlain x v
  | none => false

theorem chkZero_spec {P : Program} {t : TypeId} {zs : List AV} (h : chkZero P t zs = true) (w : World) (σ : Sig) : ∃ z, (zeroValue t).run P w = .ok z w ∧ VRs σ zs z.cells.toList := by
  unfold chkZero at h
  cases hi : P.info? t with
  | none => simp [hi] at h
  | some i =>
    cases hz : i.zero with
    | none => simp [hi, hz] at h
    | some z =>
      simp only [hi, hz, Option.bind_some, Bool.and_eq_true, beq_iff_eq, List.all_eq_true] at h
      refine ⟨z, by simp [zeroValue, typeInfo, hi, hz], by simpa using h.1, ?_⟩
      intro j x y hx hy
      have : (zs.zip z.cells.toList)[j]? = some (x, y) := by simp only [List.getElem?_zip_eq_some]; exact ⟨hx, hy⟩
      exact eqPlain_VR σ (h.2 _ (List.mem_of_getElem? this))

theorem vcAlloc_sound {P : Program} {w0 : Guard} {w : World} {σ : Sig} {h : Heap} (s : Sim w0 σ h w) {t : TypeId} {zs : List AV} {K : Cont} (hc : chkZero P t zs = true) (k : withNew h (.cells zs none) fun i h' => K (.ptr i 0) h') :
    Good w0 σ K ((Instr.alloc t true (.tuple #[])).run P w) := by
  obtain ⟨z, hz, hr⟩ := chkZero_spec hc w σ
  simp only [Instr.alloc, newVar, newRow, Sem.run_bind, hz, Result.andThen_ok, run_newObj, Sem.run_pure]
  exact Good.new s zs none z.cells t hr typed_none k

/-- A variable of a known type. -/
theorem vcAllocT_sound {P : Program} {w0 : Guard} {w : World} {σ : Sig} {h : Heap} (s : Sim w0 σ h w) {t : TypeId} {zs : List AV} {K : Cont} (hc : chkZero P t zs = true) (k : withNew h (.cells zs (some ((t + 1) * 1048576))) fun i h' => K (.ptr i 0) h') :
    Good w0 σ K ((Instr.alloc t true (.tuple #[])).run P w) := by
  obtain ⟨z, hz, hr⟩ := chkZero_spec hc w σ
  simp only [Instr.alloc, newVar, newRow, Sem.run_bind, hz, Result.andThen_ok, run_newObj, Sem.run_pure]
  refine Good.new s zs _ z.cells t hr ?_ k
  intro q hq _
  cases hq
  exact ⟨by rw [Nat.mul_div_cancel _ (by decide)], rfl, fun _ => by have := hr.len; simpa using this.symm⟩

def vcBox (h : Heap) (x : AV) (K : Cont) : Prop := req (x.cellList.all AV.isCell) (forceL x.cellList fun cs => withNew h (.cells cs none) fun i h' => K (.ptr i 0) h')

theorem vcBox_sound {P : Program} {w0 : Guard} {w : World} {σ : Sig} {h : Heap} (s : Sim w0 σ h w) {t : TypeId} {x : AV} {vx : Value} {K : Cont} (hx : VR σ x vx) (v : vcBox h x K) : Good w0 σ K ((Instr.box t vx).run P w) := by
  replace v := req_elim v
  rw [forceL_eq] at v
  simp only [Instr.box, newVar, newRow, Sem.run_bind, Result.andThen_ok, run_newObj, Sem.run_pure]
  exact Good.new s x.cellList none vx.cells t (hx.cellsList v.1) typed_none v.2

/-- A value that is no unknown one, with so many cells. -/
def sized (x : AV) (n : Nat) : Prop := match x with | .wild | .tup _ => False | x => x.cellList.length = n

theorem sized_size {σ : Sig} {x : AV} {v : Value} (r : VR σ x v) {n : Nat} (h : sized x n) : v.cells.size = n ∧ VRs σ x.cellList v.cells.toList := by
  have one : ∀ (y : AV) (u : Value), VR σ y u → u.cells = #[u] → y.cellList = [y] → VRs σ y.cellList u.cells.toList := by
    intro y u r e1 e2
    rw [e1, e2]; exact .cons r (.nil σ)
  have key : VRs σ x.cellList v.cells.toList := by
    cases r with
    | wild => exact h.elim
    | tup => exact h.elim
    | agg cs ds hl hh => exact ⟨by simpa [AV.cellList, Value.cells] using hl, by intro j a b ha hb; simp [AV.cellList, Value.cells] at ha hb; exact hh j a b ha hb⟩
    | lit _ hp => refine one _ _ (.lit _ hp) ?_ rfl; revert hp; cases v <;> simp [plainLit, Value.cells]
    | bool b => exact one _ _ (.bool b) rfl rfl
    | int k n => exact one _ _ (.int k n) rfl rfl
    | str b => exact one _ _ (.str b) rfl rfl
    | ptr i k l hl => exact one _ _ (.ptr i k l hl) rfl rfl
    | aptr i k j s o l hl => exact one _ _ (.aptr i k j s o l hl) rfl rfl
    | iptr cs k b o c hb hs hr => exact one _ _ (.iptr cs k b o c hb hs hr) rfl rfl
    | slice i k len cap cap' l hl h1 h2 => exact one _ _ (.slice i k len cap cap' l hl h1 h2) rfl rfl
    | sliceE i a l hl => exact one _ _ (.sliceE i a l hl) rfl rfl
    | islice ex n cs b o cap c h1 h2 h3 h4 h5 => exact one _ _ (.islice ex n cs b o cap c h1 h2 h3 h4 h5) rfl rfl
    | isliceE ex a cap h1 h2 => exact one _ _ (.isliceE ex a cap h1 h2) rfl rfl
    | fn f as cs as' cs' h1 h2 h3 h4 => exact one _ _ (.fn f as cs as' cs' h1 h2 h3 h4) rfl rfl
    | iface t y u hr => exact one _ _ (.iface t y u hr) rfl rfl
    | yld i l hl => exact one _ _ (.yld i l hl) rfl rfl
  refine ⟨?_, key⟩
  have hlen := key.len
  have : x.cellList.length = n := by
    unfold sized at h
    split at h
    · exact h.elim
    · exact h.elim
    · exact h
  rw [this] at hlen
  simpa using hlen.symm

/-- Parts laid over cells: place, size, value. -/
def fillA : List AV → List (Nat × AV) → List AV
  | cs, [] => cs
  | cs, (o, x) :: ps => fillA (setMany cs o x.cellList) ps

/-- The same, one behind the other. -/
def fillK : List AV → List (Nat × AV) → (List AV → Prop) → Prop
  | cs, [], K => K cs
  | cs, (o, x) :: ps, K => forceVs (overlay cs o x.cellList) fun cs' => fillK cs' ps K
theorem fillK_eq : ∀ (ps : List (Nat × AV)) (cs : List AV) (K : List AV → Prop), fillK cs ps K = K (fillA cs ps)
  | [], cs, K => rfl
  | (o, x) :: ps, cs, K => by simp only [fillK, forceVs_eq, overlay_eq, fillK_eq ps, fillA]

/-- The same, reckoned. -/
def sizedB (x : AV) (n : Nat) : Bool := match x with | .wild | .tup _ => false | x => x.cellList.length == n

def partsB (n : Nat) : List (Nat × Nat × AV) → Bool
  | [] => true
  | (o, sz, x) :: ps => sizedB x sz && decide (o + sz ≤ n) && partsB n ps

/-- The parts' places: place, size. -/
def partsOk (n : Nat) : List (Nat × Nat × AV) → Prop
  | [] => True
  | (o, sz, x) :: ps => sized x sz ∧ o + sz ≤ n ∧ partsOk n ps

theorem partsB_ok {n : Nat} : ∀ {ps : List (Nat × Nat × AV)}, partsB n ps = true → partsOk n ps
  | [], _ => trivial
  | (o, sz, x) :: ps, h => by
    simp only [partsB, Bool.and_eq_true, decide_eq_true_eq] at h
    refine ⟨?_, h.1.2, partsB_ok h.2⟩
    have := h.1.1
    cases x <;> simp [sizedB, sized] at this ⊢ <;> exact this

theorem foldl_setMany {σ : Sig} : ∀ (xs : List AV) (vs : List Value) (cs : List AV) (ds : Array Value) (o j : Nat), VRs σ xs vs → VRs σ cs ds.toList →
    VRs σ (setMany cs (o + j) xs) ((vs.zipIdx j).foldl (fun (a : Array Value) (p : Value × Nat) => a.setIfInBounds (o + p.2) p.1) ds).toList
  | [], vs, cs, ds, o, j, hv, hc => by
    have : vs = [] := by have := hv.len; simp at this; exact List.length_eq_zero_iff.1 this.symm
    subst this; simpa [setMany] using hc
  | x :: xs, vs, cs, ds, o, j, hv, hc => by
    cases vs with
    | nil => have := hv.len; simp at this
    | cons v vs =>
      simp only [List.zipIdx_cons, List.foldl_cons, setMany]
      have hvx : VR σ x v := hv.at_ 0 x v rfl rfl
      have hvs : VRs σ xs vs := ⟨by have := hv.len; simpa using this, fun q a b ha hb => hv.at_ (q + 1) a b (by simpa using ha) (by simpa using hb)⟩
      have := foldl_setMany xs vs (cs.set (o + j) x) (ds.setIfInBounds (o + j) v) o (j + 1) hvs (by simpa using hc.set (o + j) hvx)
      rw [← Nat.add_assoc] at this
      exact this

theorem fill_sound {σ : Sig} (place : Nat → Option (Nat × Nat)) : ∀ (ps : List (Nat × Nat × AV)) (qs : List (Nat × Value)) (cs : List AV) (ds : Array Value) (n : Nat),
    qs.length = ps.length → (∀ (j : Nat) o sz x i v, ps[j]? = some (o, sz, x) → qs[j]? = some (i, v) → place i = some (o, sz) ∧ VR σ x v) → partsOk n ps → VRs σ cs ds.toList → cs.length = n →
    ∃ es, Instr.fill place ds qs = some es ∧ VRs σ (fillA cs (ps.map fun p => (p.1, p.2.2))) es.toList
  | [], qs, cs, ds, n, hl, _, _, hc, _ => by
    have : qs = [] := by simpa using hl
    subst this; exact ⟨ds, rfl, by simpa [fillA] using hc⟩
  | (o, sz, x) :: ps, qs, cs, ds, n, hl, hp, hok, hc, hn => by
    cases qs with
    | nil => simp at hl
    | cons q qs =>
      obtain ⟨i, v⟩ := q
      obtain ⟨h1, h2, h3⟩ := hok
      obtain ⟨hpl, hr⟩ := hp 0 o sz x i v rfl rfl
      obtain ⟨hsz, hvs⟩ := sized_size hr h1
      have hds : ds.size = n := by have := hc.len; rw [hn] at this; simpa using this.symm
      have step := foldl_setMany x.cellList v.cells.toList cs ds o 0 hvs hc
      have hfold : (v.cells.zipIdx.foldl (fun cs (c, j) => cs.setIfInBounds (o + j) c) ds) = ((v.cells.toList.zipIdx 0).foldl (fun (a : Array Value) (p : Value × Nat) => a.setIfInBounds (o + p.2) p.1) ds) := by
        rw [← Array.foldl_toList, Array.toList_zipIdx]
      obtain ⟨es, he, hes⟩ := fill_sound place ps qs (setMany cs o x.cellList) _ n (by simpa using hl) (fun j o' sz' x' i' v' a b => hp (j + 1) o' sz' x' i' v' (by simpa using a) (by simpa using b)) h3 step (by rw [setMany_length, hn])
      refine ⟨es, ?_, by simpa [fillA] using hes⟩
      simp only [Instr.fill, hpl, hsz, hds]
      rw [if_neg (by simp; omega), hfold]
      exact he

end Go.Proofs.YtginchgkbgcimaaDoor.AL
