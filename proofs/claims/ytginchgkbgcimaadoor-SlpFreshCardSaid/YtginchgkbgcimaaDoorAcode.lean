/- Code over the abstract states: what it asks ('vc'), and that the model's code does so. -/
import Derived.Test.YtginchgkbgcimaaDoorAin
import Derived.OrdersIn
namespace Go.Proofs.YtginchgkbgcimaaDoor.AL
open Go Go.RowKit

structure AOper where
  g : Option (Nat × Bool)
  d : Option Nat
  op : AOp

def aput (ts : List AV) (d : Option Nat) (v : AV) : List AV := match d with | some d => tset ts d v | none => ts

/-- What goes on behind an operation's value. -/
def stepK (ts : List AV) (d : Option Nat) (v : AV) (N : List AV → Prop) : Prop :=
  match d with
  | none => N ts
  | some d => forceV v fun v => forceL (tset ts d v) N

theorem stepK_eq (ts : List AV) (d : Option Nat) (v : AV) (N : List AV → Prop) : stepK ts d v N = N (aput ts d v) := by
  cases d with
  | none => rfl
  | some d => simp only [stepK, forceV_eq, forceL_eq, aput]

noncomputable def vcOps (P : Program) (K : List AV → Heap → Prop) (E : List AV → AV → Heap → Prop) : List AOper → List AV → Heap → Prop
  | [], ts, h => K ts h
  | ⟨none, d, op⟩ :: r, ts, h => vcOp P ts h (fun v h' => stepK ts d v fun ts => hid (vcOps P K E r ts h')) (E ts) op
  | ⟨some (t, b), d, op⟩ :: r, ts, h => match tget ts t with
    | .bool c => (match b with
      | true => bcase c (forceL (tset ts t (.bool true)) fun ts => vcOp P ts h (fun v h' => stepK ts d v fun ts => hid (vcOps P K E r ts h')) (E ts) op)
          (forceL (tset ts t (.bool false)) fun ts => stepK ts d (.tup []) fun ts => hid (vcOps P K E r ts h))
      | false => bcase c (forceL (tset ts t (.bool true)) fun ts => stepK ts d (.tup []) fun ts => hid (vcOps P K E r ts h))
          (forceL (tset ts t (.bool false)) fun ts => vcOp P ts h (fun v h' => stepK ts d v fun ts => hid (vcOps P K E r ts h')) (E ts) op))
    | .tup _ => stepK ts d (.tup []) fun ts => hid (vcOps P K E r ts h)
    | _ => False

theorem tset_self (ts : List AV) (t : Nat) (v : AV) (h : tget ts t = v) (hv : v ≠ .wild) : tset ts t v = ts := by
  rw [tget_eq] at h
  rw [tset_eq]
  cases e : ts[t]? with
  | none => rw [e] at h; exact absurd h.symm hv
  | some x => rw [e] at h; simp at h; subst h; exact set_self _ _ _ e

def chkGuard (ops : Array Oper) (g : Option (Nat × Bool)) (o : Option (Nat × Bool)) : Bool :=
  match g, o with
  | none, none => true
  | some (t, b), some (j, b') => b == b' && ((ops[j]?).bind (·.dst)) == some t
  | _, _ => false

def chkOper (P : Program) (ops : Array Oper) (x : AOper) (o : Oper) : Bool := chkGuard ops x.g o.guard && x.d == o.dst && chkOp P x.op o.op

def chkOpers (P : Program) (ops : Array Oper) : List AOper → List Oper → Bool
  | [], [] => true
  | x :: xs, o :: os => chkOper P ops x o && chkOpers P ops xs os
  | _, _ => false

theorem FR.mono {σ τ : Sig} (h : σ.Le τ) {ts : List AV} {a : Act} (f : FR σ ts a) : FR τ ts a := VRs.mono h f

theorem FR.put {σ : Sig} {ts : List AV} {a : Act} (f : FR σ ts a) (d : Option Nat) {v : AV} {u : Value} (r : VR σ v u) : FR σ (aput ts d v) (a.put d u) := by
  cases d with
  | none => exact f
  | some d =>
    simp only [aput, tset_eq, Act.put]
    unfold FR
    simp only [Array.toList_setIfInBounds]
    exact VRs.set f d r

theorem tget_bool {σ : Sig} {ts : List AV} {a : Act} (f : FR σ ts a) {t : Nat} {c : Bool} (h : tget ts t = .bool c) : a.tmps[t]? = some (.bool c) := by
  rw [tget_eq] at h
  cases hx : ts[t]? with
  | none => rw [hx] at h; simp at h
  | some x =>
    rw [hx] at h; simp at h; subst h
    obtain ⟨y, hy, hr⟩ := VRs.get f hx
    rw [Array.getElem?_toList] at hy
    cases hr; exact hy

theorem wanted_of {σ : Sig} {ts : List AV} {a : Act} (f : FR σ ts a) {ops : Array Oper} {o : Oper} {t : Nat} {b c : Bool} (hg : chkGuard ops (some (t, b)) o.guard = true) (h : tget ts t = .bool c) :
    Region.wanted o (yielded ops a.tmps) = (c == b) := by
  cases ho : o.guard with
  | none => rw [ho] at hg; simp [chkGuard] at hg
  | some p =>
    obtain ⟨j, b'⟩ := p
    rw [ho] at hg
    simp only [chkGuard, Bool.and_eq_true, beq_iff_eq] at hg
    obtain ⟨rfl, hd⟩ := hg
    have : yielded ops a.tmps j = some c := by
      unfold yielded
      rw [hd, Option.bind_some, tget_bool f h]
    simp only [Region.wanted, ho, this]
    cases c <;> cases b <;> rfl

/-- A guard that is not met: its slot holds the other answer, or nothing at all. -/
def Off (b : Bool) (v : AV) : Prop := v = .bool (!b) ∨ ∃ l, v = .tup l
theorem vr_undef {σ : Sig} : VR σ (.tup []) undef := .tup [] #[] rfl (by intro j x y h; simp at h)
theorem tget_tup {σ : Sig} {ts : List AV} {a : Act} (f : FR σ ts a) {t : Nat} {l : List AV} (h : tget ts t = .tup l) : ∃ ds, a.tmps[t]? = some (.tuple ds) := by
  rw [tget_eq] at h
  cases hx : ts[t]? with
  | none => rw [hx] at h; simp at h
  | some x =>
    rw [hx] at h; simp at h; subst h
    obtain ⟨y, hy, hr⟩ := VRs.get f hx
    rw [Array.getElem?_toList] at hy
    cases hr with
    | tup _ ds _ _ => exact ⟨ds, hy⟩
theorem wanted_off {σ : Sig} {ts : List AV} {a : Act} (f : FR σ ts a) {ops : Array Oper} {o : Oper} {t : Nat} {b : Bool} (hg : chkGuard ops (some (t, b)) o.guard = true) (h : Off b (tget ts t)) :
    Region.wanted o (yielded ops a.tmps) = false := by
  rcases h with h | ⟨l, h⟩
  · rw [wanted_of f hg h]; cases b <;> rfl
  · obtain ⟨ds, hds⟩ := tget_tup f h
    cases ho : o.guard with
    | none => rw [ho] at hg; simp [chkGuard] at hg
    | some p =>
      obtain ⟨j, b'⟩ := p
      rw [ho] at hg
      simp only [chkGuard, Bool.and_eq_true, beq_iff_eq] at hg
      obtain ⟨rfl, hd⟩ := hg
      have : yielded ops a.tmps j = none := by
        unfold yielded
        rw [hd, Option.bind_some, hds]
      simp only [Region.wanted, ho, this]
      cases b <;> rfl

inductive AExit where
  | normal
  | exit (id : Nat)
  | goto (l : Nat)
  | ret
  | pan (v : AV)

inductive XRel (σ : Sig) : AExit → Exit → Prop where
  | normal : XRel σ .normal .normal
  | exit (id : Nat) : XRel σ (.exit id) (.exit id)
  | goto (l : Nat) : XRel σ (.goto l) (.goto l)
  | ret : XRel σ .ret .ret
  | pan (v : AV) (u : Value) (h : VR σ v u) : XRel σ (.pan v) (.panic [{ v := u, recovered := false }])

abbrev Post := AExit → List AV → Heap → Prop

/-- The first m names, and all that is read only, stay. -/
structure Sig.LeN (m : Nat) (σ τ : Sig) : Prop where
  loc : ∀ i l, i < m → σ.loc i = some l → τ.loc i = some l
  fro : ∀ b c, σ.fro b = some c → τ.fro b = some c
  mrk : ∀ b, σ.mrk b → τ.mrk b
theorem Sig.LeN.refl (m : Nat) (σ : Sig) : σ.LeN m σ := ⟨fun _ _ _ h => h, fun _ _ h => h, fun _ h => h⟩
theorem Sig.LeN.trans {m : Nat} {a b c : Sig} (h : a.LeN m b) (k : b.LeN m c) : a.LeN m c := ⟨fun i l hi x => k.loc i l hi (h.loc i l hi x), fun i l x => k.fro i l (h.fro i l x), fun b x => k.mrk b (h.mrk b x)⟩
theorem Sig.Le.toN {m : Nat} {a b : Sig} (h : a.Le b) : a.LeN m b := ⟨fun i l _ x => h.loc i l x, h.fro, h.mrk⟩

/-- The calls that a frame has put off: those known, behind the marks of its ranges over functions; M: marks of others. -/
structure DM where
  ds : List Deferred
  M : Nat → Prop
  fl : Bool
def mkD (b : Nat) : Deferred := { target := .collected b, args := #[] }
structure DOk (D : DM) (σ : Sig) (l : List Deferred) : Prop where
  out : ∃ bs : List Nat, l = bs.map mkD ++ D.ds ∧ bs.Nodup ∧ (∀ b ∈ bs, σ.mrk b ∧ ¬ D.M b) ∧ (D.fl = false → bs = [])
  old : ∀ b, D.M b → σ.mrk b
theorem DOk.mono {D : DM} {σ τ : Sig} {l : List Deferred} (h : ∀ b, σ.mrk b → τ.mrk b) (d : DOk D σ l) : DOk D τ l :=
  let ⟨bs, h1, h2, h3, h4⟩ := d.out; ⟨⟨bs, h1, h2, fun b hb => ⟨h b (h3 b hb).1, (h3 b hb).2⟩, h4⟩, fun b hb => h b (d.old b hb)⟩

/-- The model's post that an abstract one stands for. -/
def Conc (D : DM) (m : Nat) (w0 : Guard) (σ : Sig) (Q : Post) : Exit → Act → World → Prop := fun e a w => ∃ ae ts h σ', XRel σ' ae e ∧ Q ae ts h ∧ Sim w0 σ' h w ∧ FR σ' ts a ∧ DOk D σ' a.defers ∧ σ.LeN m σ'

theorem Conc.mono {D : DM} {m : Nat} {w0 : Guard} {σ τ : Sig} (le : σ.LeN m τ) {Q : Post} {e : Exit} {a : Act} {w : World} (c : Conc D m w0 τ Q e a w) : Conc D m w0 σ Q e a w := by
  obtain ⟨ae, ts, h, σ', h1, h2, h3, h4, h5, h6⟩ := c
  exact ⟨ae, ts, h, σ', h1, h2, h3, h4, h5, le.trans h6⟩

def AWp (P : Program) (r : RM) (D : DM) (m : Nat) (c : Code) (Q : Post) (ts : List AV) (h : Heap) : Prop :=
  ∀ w0 σ w a, Sim w0 σ h w → FR σ ts a → DOk D σ a.defers → WpX P r c (Conc D m w0 σ Q) a w

theorem put_defers' (a : Act) (d : Option Nat) (v : Value) : (a.put d v).defers = a.defers := by cases d <;> rfl

theorem operIn_mono {P : Program} {r : Option Nat} {n : Nat} {o : Oper} {a : Act} {w : World} {K K' : Act → World → Prop} {Q Q' : Exit → Act → World → Prop} (hk : ∀ a w, K a w → K' a w) (hq : ∀ e a w, Q e a w → Q' e a w) (h : o.wpIn (FW r) n P a w K Q) : o.wpIn (FW r) n P a w K' Q' := by
  refine ⟨h.1, ?_⟩
  have h := h.2
  revert h
  generalize (o.semAt (FW r).round a.eval).run P w = res
  intro h
  cases res with
  | ok nx w' =>
    cases nx <;> simp only [Oper.uponIn] at h ⊢ <;>
      first
        | exact hk _ _ h
        | exact ⟨h.1, CallsIn.mono h.2 (fun e w2 he => by
            cases e with
            | returned v => exact hk _ _ he
            | panicked ch => exact hq _ _ _ he
            | outgrown => obtain ⟨a0, w0, he⟩ := he; exact ⟨a0, w0, hq _ _ _ he⟩)⟩
        | exact ⟨h.1, RoundIn.mono h.2 (fun e w2 he => by
            cases e with
            | returned v => exact hk _ _ he
            | panicked ch => exact hq _ _ _ he
            | outgrown => obtain ⟨a0, w0, he⟩ := he; exact ⟨a0, w0, hq _ _ _ he⟩)⟩
        | exact ⟨h.1, RowsIn.mono h.2 (fun _ _ he => hk _ _ he)⟩
        | exact h
  | halt x w' => cases x <;> simp only [Oper.uponIn] at h ⊢ <;> first | exact hq _ _ _ h | exact h

theorem listIn_mono {P : Program} {r : Option Nat} {n : Nat} {ops : Array Oper} {Q Q' : Exit → Act → World → Prop} (hq : ∀ e a w, Q e a w → Q' e a w) {os : List Oper} {a : Act} {w : World} (h : wpListIn (FW r) n P ops Q os a w) : wpListIn (FW r) n P ops Q' os a w := by
  induction os generalizing a w with
  | nil => exact hq _ _ _ h
  | cons o os ih =>
    unfold wpListIn at h ⊢
    split
    · rename_i hw
      rw [if_pos hw] at h
      exact operIn_mono (fun _ _ => ih) hq h
    · rename_i hw
      rw [if_neg hw] at h
      exact ⟨h.1, ih h.2⟩

theorem vcOps_sound {P : Program} {r : Option Nat} {n : Nat} {D : DM} {m : Nat} {ops : Array Oper} {Q : Post} : ∀ (xs : List AOper) (os : List Oper) (ts : List AV) (h : Heap), chkOpers P ops xs os = true →
    vcOps P (fun ts h => Q .normal ts h) (fun ts v h => Q (.pan v) ts h) xs ts h → ∀ w0 σ w a, Sim w0 σ h w → FR σ ts a → DOk D σ a.defers → wpListIn (FW r) n P ops (Conc D m w0 σ Q) os a w
  | [], os, ts, h, hc, v, w0, σ, w, a, s, f, d => by
    cases os with
    | nil => exact ⟨.normal, ts, h, σ, .normal, v, s, f, d, .refl m σ⟩
    | cons o os => simp [chkOpers] at hc
  | x :: xs, os, ts, h, hc, v, w0, σ, w, a, s, f, d => by
    cases os with
    | nil => simp [chkOpers] at hc
    | cons o os =>
      simp only [chkOpers, chkOper, Bool.and_eq_true, beq_iff_eq] at hc
      obtain ⟨⟨⟨hg, hd⟩, hop⟩, hrest⟩ := hc
      obtain ⟨g, dd, op⟩ := x
      simp only at hg hd hop
      subst hd
      have main : vcOp P ts h (fun v h' => vcOps P (fun ts h => Q .normal ts h) (fun ts v h => Q (.pan v) ts h) xs (aput ts o.dst v) h') (fun v h => Q (.pan v) ts h) op →
          o.wpIn (FW r) n P a w (wpListIn (FW r) n P ops (Conc D m w0 σ Q) os) (Conc D m w0 σ Q) := by
        intro v
        refine op_soundIn hop s f v ?_ ?_ r n
        · intro v v' h' w' σ' hv hk s' le
          have ih := vcOps_sound (r := r) (n := n) (D := D) (m := m) xs os _ h' hrest hk w0 σ' w' (a.put o.dst v') s' ((f.mono le).put _ hv) (by rw [put_defers']; exact d.mono le.mrk)
          exact listIn_mono (fun e a w c => c.mono le.toN) ih
        · intro v v' h' w' σ' hv he s' le
          exact ⟨.pan v, ts, h', σ', .pan v v' hv, he, s', f.mono le, d.mono le.mrk, le.toN⟩
      have skip : ∀ (k : vcOps P (fun ts h => Q .normal ts h) (fun ts v h => Q (.pan v) ts h) xs (aput ts o.dst (.tup [])) h), Region.wanted o (yielded ops a.tmps) = false → wpListIn (FW r) n P ops (Conc D m w0 σ Q) (o :: os) a w := by
        intro k hw
        unfold wpListIn
        rw [if_neg (by rw [hw]; simp)]
        exact ⟨fun _ _ => trivial, vcOps_sound (r := r) (n := n) (D := D) xs os _ h hrest k w0 σ w (a.put o.dst undef) s (f.put _ vr_undef) (by rw [put_defers']; exact d)⟩
      cases g with
      | none =>
        have hgn : o.guard = none := by
          cases ho : o.guard with
          | none => rfl
          | some p => rw [ho] at hg; simp [chkGuard] at hg
        unfold wpListIn
        rw [if_pos (by simp [Region.wanted, hgn])]
        simp only [vcOps, stepK_eq, hid_eq] at v
        exact main v
      | some tb =>
        obtain ⟨t, b⟩ := tb
        simp only [vcOps] at v
        split at v
        · rename_i c hc'
          have hw := wanted_of f hg hc'
          cases b <;> cases c <;> simp only [bcase, forceL_eq, tset_self ts t _ hc' (by simp), stepK_eq, hid_eq] at v
          · unfold wpListIn; rw [if_pos (by rw [hw]; rfl)]; exact main v
          · exact skip v hw
          · exact skip v hw
          · unfold wpListIn; rw [if_pos (by rw [hw]; rfl)]; exact main v
        · rename_i l hc'
          have hw := wanted_off f hg (.inr ⟨l, hc'⟩)
          simp only [stepK_eq, hid_eq] at v
          exact skip v hw
        · exact v.elim

theorem tget_VR {σ : Sig} {ts : List AV} {a : Act} (f : FR σ ts a) (t : Nat) : VR σ (tget ts t) (a.tmps.getD t undef) :=
  ev_VR f (x := .t t) (o := .tmp t) (by simp [chkOpd])

end Go.Proofs.YtginchgkbgcimaaDoor.AL
