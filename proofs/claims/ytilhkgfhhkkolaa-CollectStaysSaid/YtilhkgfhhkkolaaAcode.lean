/- Code over the abstract states: what it asks ('vc'), and that the model's code does so. -/
import Derived.Test.YtilhkgfhhkkolaaAopS
import Derived.Orders
namespace Go.Proofs.Ytilhkgfhhkkolaa.AL
open Go Go.RowKit

structure AOper where
  g : Option (Nat × Bool)
  d : Option Nat
  op : AOp

def aput (ts : List AV) (d : Option Nat) (v : AV) : List AV := match d with | some d => tset ts d v | none => ts

/-- What goes on behind an operation's value. -/
def stepK (ts : List AV) (d : Option Nat) (v : AV) (N : List AV → Prop) : Prop :=
  match d with
  | none => N ts
  | some d => forceV v fun v => forceL (tset ts d v) N

theorem stepK_eq (ts : List AV) (d : Option Nat) (v : AV) (N : List AV → Prop) : stepK ts d v N = N (aput ts d v) := by
  cases d with
  | none => rfl
  | some d => simp only [stepK, forceV_eq, forceL_eq, aput]

noncomputable def vcOps (P : Program) (K : List AV → Heap → Prop) (E : List AV → AV → Heap → Prop) : List AOper → List AV → Heap → Prop
  | [], ts, h => K ts h
  | ⟨none, d, op⟩ :: r, ts, h => vcOp P ts h (fun v h' => stepK ts d v fun ts => hid (vcOps P K E r ts h')) (E ts) op
  | ⟨some (t, b), d, op⟩ :: r, ts, h => match tget ts t with
    | .bool c => (match b with
      | true => bcase c (forceL (tset ts t (.bool true)) fun ts => vcOp P ts h (fun v h' => stepK ts d v fun ts => hid (vcOps P K E r ts h')) (E ts) op)
          (forceL (tset ts t (.bool false)) fun ts => stepK ts d (.tup []) fun ts => hid (vcOps P K E r ts h))
      | false => bcase c (forceL (tset ts t (.bool true)) fun ts => stepK ts d (.tup []) fun ts => hid (vcOps P K E r ts h))
          (forceL (tset ts t (.bool false)) fun ts => vcOp P ts h (fun v h' => stepK ts d v fun ts => hid (vcOps P K E r ts h')) (E ts) op))
    | .tup _ => stepK ts d (.tup []) fun ts => hid (vcOps P K E r ts h)
    | _ => False

theorem tset_self (ts : List AV) (t : Nat) (v : AV) (h : tget ts t = v) (hv : v ≠ .wild) : tset ts t v = ts := by
  rw [tget_eq] at h
  rw [tset_eq]
  cases e : ts[t]? with
  | none => rw [e] at h; exact absurd h.symm hv
  | some x => rw [e] at h; simp at h; subst h; exact set_self _ _ _ e

def chkGuard (ops : Array Oper) (g : Option (Nat × Bool)) (o : Option (Nat × Bool)) : Bool :=
  match g, o with
  | none, none => true
  | some (t, b), some (j, b') => b == b' && ((ops[j]?).bind (·.dst)) == some t
  | _, _ => false

def chkOper (P : Program) (ops : Array Oper) (x : AOper) (o : Oper) : Bool := chkGuard ops x.g o.guard && x.d == o.dst && chkOp P x.op o.op

def chkOpers (P : Program) (ops : Array Oper) : List AOper → List Oper → Bool
  | [], [] => true
  | x :: xs, o :: os => chkOper P ops x o && chkOpers P ops xs os
  | _, _ => false

theorem FR.mono {σ τ : Sig} (h : σ.Le τ) {ts : List AV} {a : Act} (f : FR σ ts a) : FR τ ts a := VRs.mono h f

theorem FR.put {σ : Sig} {ts : List AV} {a : Act} (f : FR σ ts a) (d : Option Nat) {v : AV} {u : Value} (r : VR σ v u) : FR σ (aput ts d v) (a.put d u) := by
  cases d with
  | none => exact f
  | some d =>
    simp only [aput, tset_eq, Act.put]
    unfold FR
    simp only [Array.toList_setIfInBounds]
    exact VRs.set f d r

theorem tget_bool {σ : Sig} {ts : List AV} {a : Act} (f : FR σ ts a) {t : Nat} {c : Bool} (h : tget ts t = .bool c) : a.tmps[t]? = some (.bool c) := by
  rw [tget_eq] at h
  cases hx : ts[t]? with
  | none => rw [hx] at h; simp at h
  | some x =>
    rw [hx] at h; simp at h; subst h
    obtain ⟨y, hy, hr⟩ := VRs.get f hx
    rw [Array.getElem?_toList] at hy
    cases hr; exact hy

theorem wanted_of {σ : Sig} {ts : List AV} {a : Act} (f : FR σ ts a) {ops : Array Oper} {o : Oper} {t : Nat} {b c : Bool} (hg : chkGuard ops (some (t, b)) o.guard = true) (h : tget ts t = .bool c) :
    Region.wanted o (yielded ops a.tmps) = (c == b) := by
  cases ho : o.guard with
  | none => rw [ho] at hg; simp [chkGuard] at hg
  | some p =>
    obtain ⟨j, b'⟩ := p
    rw [ho] at hg
    simp only [chkGuard, Bool.and_eq_true, beq_iff_eq] at hg
    obtain ⟨rfl, hd⟩ := hg
    have : yielded ops a.tmps j = some c := by
      unfold yielded
      rw [hd, Option.bind_some, tget_bool f h]
    simp only [Region.wanted, ho, this]
    cases c <;> cases b <;> rfl

/-- A guard that is not met: its slot holds the other answer, or nothing at all. -/
def Off (b : Bool) (v : AV) : Prop := v = .bool (!b) ∨ ∃ l, v = .tup l
theorem vr_undef {σ : Sig} : VR σ (.tup []) undef := .tup [] #[] rfl (by intro j x y h; simp at h)
theorem tget_tup {σ : Sig} {ts : List AV} {a : Act} (f : FR σ ts a) {t : Nat} {l : List AV} (h : tget ts t = .tup l) : ∃ ds, a.tmps[t]? = some (.tuple ds) := by
  rw [tget_eq] at h
  cases hx : ts[t]? with
  | none => rw [hx] at h; simp at h
  | some x =>
    rw [hx] at h; simp at h; subst h
    obtain ⟨y, hy, hr⟩ := VRs.get f hx
    rw [Array.getElem?_toList] at hy
    cases hr with
    | tup _ ds _ _ => exact ⟨ds, hy⟩
theorem wanted_off {σ : Sig} {ts : List AV} {a : Act} (f : FR σ ts a) {ops : Array Oper} {o : Oper} {t : Nat} {b : Bool} (hg : chkGuard ops (some (t, b)) o.guard = true) (h : Off b (tget ts t)) :
    Region.wanted o (yielded ops a.tmps) = false := by
  rcases h with h | ⟨l, h⟩
  · rw [wanted_of f hg h]; cases b <;> rfl
  · obtain ⟨ds, hds⟩ := tget_tup f h
    cases ho : o.guard with
    | none => rw [ho] at hg; simp [chkGuard] at hg
    | some p =>
      obtain ⟨j, b'⟩ := p
      rw [ho] at hg
      simp only [chkGuard, Bool.and_eq_true, beq_iff_eq] at hg
      obtain ⟨rfl, hd⟩ := hg
      have : yielded ops a.tmps j = none := by
        unfold yielded
        rw [hd, Option.bind_some, hds]
      simp only [Region.wanted, ho, this]
      cases b <;> rfl

inductive AExit where
  | normal
  | exit (id : Nat)
  | goto (l : Nat)
  | ret
  | pan (v : AV)

inductive XRel (σ : Sig) : AExit → Exit → Prop where
  | normal : XRel σ .normal .normal
  | exit (id : Nat) : XRel σ (.exit id) (.exit id)
  | goto (l : Nat) : XRel σ (.goto l) (.goto l)
  | ret : XRel σ .ret .ret
  | pan (v : AV) (u : Value) (h : VR σ v u) : XRel σ (.pan v) (.panic [{ v := u, recovered := false }])

abbrev Post := AExit → List AV → Heap → Prop

/-- The first m names, and all that is read only, stay. -/
structure Sig.LeN (m : Nat) (σ τ : Sig) : Prop where
  loc : ∀ i l, i < m → σ.loc i = some l → τ.loc i = some l
  fro : ∀ b c, σ.fro b = some c → τ.fro b = some c
theorem Sig.LeN.refl (m : Nat) (σ : Sig) : σ.LeN m σ := ⟨fun _ _ _ h => h, fun _ _ h => h⟩
theorem Sig.LeN.trans {m : Nat} {a b c : Sig} (h : a.LeN m b) (k : b.LeN m c) : a.LeN m c := ⟨fun i l hi x => k.loc i l hi (h.loc i l hi x), fun i l x => k.fro i l (h.fro i l x)⟩
theorem Sig.Le.toN {m : Nat} {a b : Sig} (h : a.Le b) : a.LeN m b := ⟨fun i l _ x => h.loc i l x, h.fro⟩

/-- The model's post that an abstract one stands for. -/
def Conc (ds : List Deferred) (m : Nat) (w0 : Guard) (σ : Sig) (Q : Post) : Exit → Act → World → Prop := fun e a w => ∃ ae ts h σ', XRel σ' ae e ∧ Q ae ts h ∧ Sim w0 σ' h w ∧ FR σ' ts a ∧ a.defers = ds ∧ σ.LeN m σ'

theorem Conc.mono {ds : List Deferred} {m : Nat} {w0 : Guard} {σ τ : Sig} (le : σ.LeN m τ) {Q : Post} {e : Exit} {a : Act} {w : World} (c : Conc ds m w0 τ Q e a w) : Conc ds m w0 σ Q e a w := by
  obtain ⟨ae, ts, h, σ', h1, h2, h3, h4, h5, h6⟩ := c
  exact ⟨ae, ts, h, σ', h1, h2, h3, h4, h5, le.trans h6⟩

def AWp (P : Program) (ds : List Deferred) (m : Nat) (c : Code) (Q : Post) (ts : List AV) (h : Heap) : Prop :=
  ∀ w0 σ w a, Sim w0 σ h w → FR σ ts a → a.defers = ds → c.wp P (Conc ds m w0 σ Q) a w

theorem put_defers' (a : Act) (d : Option Nat) (v : Value) : (a.put d v).defers = a.defers := by cases d <;> rfl

theorem vcOps_sound {P : Program} {ds : List Deferred} {m : Nat} {ops : Array Oper} {Q : Post} : ∀ (xs : List AOper) (os : List Oper) (ts : List AV) (h : Heap), chkOpers P ops xs os = true →
    vcOps P (fun ts h => Q .normal ts h) (fun ts v h => Q (.pan v) ts h) xs ts h → ∀ w0 σ w a, Sim w0 σ h w → FR σ ts a → a.defers = ds → wpList P ops (Conc ds m w0 σ Q) os a w
  | [], os, ts, h, hc, v, w0, σ, w, a, s, f, d => by
    cases os with
    | nil => exact ⟨.normal, ts, h, σ, .normal, v, s, f, d, .refl m σ⟩
    | cons o os => simp [chkOpers] at hc
  | x :: xs, os, ts, h, hc, v, w0, σ, w, a, s, f, d => by
    cases os with
    | nil => simp [chkOpers] at hc
    | cons o os =>
      simp only [chkOpers, chkOper, Bool.and_eq_true, beq_iff_eq] at hc
      obtain ⟨⟨⟨hg, hd⟩, hop⟩, hrest⟩ := hc
      obtain ⟨g, dd, op⟩ := x
      simp only at hg hd hop
      subst hd
      have main : vcOp P ts h (fun v h' => vcOps P (fun ts h => Q .normal ts h) (fun ts v h => Q (.pan v) ts h) xs (aput ts o.dst v) h') (fun v h => Q (.pan v) ts h) op →
          o.wp P a w (wpList P ops (Conc ds m w0 σ Q) os) (Conc ds m w0 σ Q) := by
        intro v
        refine op_sound hop s f v ?_ ?_
        · intro v v' h' w' σ' hv hk s' le
          have ih := vcOps_sound (ds := ds) (m := m) xs os _ h' hrest hk w0 σ' w' (a.put o.dst v') s' ((f.mono le).put _ hv) (by rw [put_defers']; exact d)
          exact wpList_mono' (fun e a w c => c.mono le.toN) ih
        · intro v v' h' w' σ' hv he s' le
          exact ⟨.pan v, ts, h', σ', .pan v v' hv, he, s', f.mono le, d, le.toN⟩
      cases g with
      | none =>
        have hgn : o.guard = none := by
          cases ho : o.guard with
          | none => rfl
          | some p => rw [ho] at hg; simp [chkGuard] at hg
        unfold wpList
        rw [if_pos (by simp [Region.wanted, hgn])]
        simp only [vcOps, stepK_eq, hid_eq] at v
        exact .inl (main v)
      | some tb =>
        obtain ⟨t, b⟩ := tb
        simp only [vcOps] at v
        split at v
        · rename_i c hc'
          have hw := wanted_of f hg hc'
          unfold wpList
          rw [hw]
          cases b <;> cases c <;> simp only [bcase, forceL_eq, tset_self ts t _ hc' (by simp), stepK_eq, hid_eq] at v
          · exact .inl (main v)
          · exact vcOps_sound (ds := ds) xs os _ h hrest v w0 σ w (a.put o.dst undef) s (f.put _ vr_undef) (by rw [put_defers']; exact d)
          · exact vcOps_sound (ds := ds) xs os _ h hrest v w0 σ w (a.put o.dst undef) s (f.put _ vr_undef) (by rw [put_defers']; exact d)
          · exact .inl (main v)
        · rename_i l hc'
          have hw := wanted_off f hg (.inr ⟨l, hc'⟩)
          unfold wpList
          rw [hw]
          simp only [stepK_eq, hid_eq] at v
          exact vcOps_sound (ds := ds) xs os _ h hrest v w0 σ w (a.put o.dst undef) s (f.put _ vr_undef) (by rw [put_defers']; exact d)
        · exact v.elim
where
  wpList_mono' {P : Program} {ops : Array Oper} {Q Q' : Exit → Act → World → Prop} (hq : ∀ e a w, Q e a w → Q' e a w) {os : List Oper} {a : Act} {w : World} (h : wpList P ops Q os a w) : wpList P ops Q' os a w := by
    induction os generalizing a w with
    | nil => exact hq _ _ _ h
    | cons o os ih =>
      unfold wpList at h ⊢
      split
      · rename_i hw
        rw [if_pos hw] at h
        rcases h with h | ⟨h1, a0, w0, h2⟩
        · refine .inl ?_
          unfold Oper.wp at *
          generalize (execOp a.eval o).run P w = r at *
          cases r with
          | ok n w' =>
            cases n <;> simp only [Oper.upon] at h ⊢ <;>
              first
                | exact ih h
                | exact Calls.mono h (fun e w'' he => by
                    cases e with
                    | returned v => exact ih he
                    | panicked ch => exact hq _ _ _ he
                    | outgrown => obtain ⟨a0, w0, he⟩ := he; exact ⟨a0, w0, hq _ _ _ he⟩)
                | exact Rows.mono h (fun _ _ he => ih he)
                | exact h
          | halt x w' => cases x <;> simp only [Oper.upon] at h ⊢ <;> first | exact hq _ _ _ h | exact h
        · exact .inr ⟨h1, a0, w0, hq _ _ _ h2⟩
      · rename_i hw
        rw [if_neg hw] at h
        exact ih h

theorem tget_VR {σ : Sig} {ts : List AV} {a : Act} (f : FR σ ts a) (t : Nat) : VR σ (tget ts t) (a.tmps.getD t undef) :=
  ev_VR f (x := .t t) (o := .tmp t) (by simp [chkOpd])

end Go.Proofs.Ytilhkgfhhkkolaa.AL
