/- Code over the abstract states: what whole bodies ask ('vc'), loops, functions. -/
import Derived.Test.YtginchgkbgcimaaDoorArfun
namespace Go.Proofs.YtginchgkbgcimaaDoor.AL
open Go Go.RowKit

inductive ACode where
  | skip
  | ret
  | region (ops : List AOper)
  | draw (ord : DT) (dir : List (Nat × Nat)) (ops : List AOper)
  | seq (a b : ACode)
  | cond (c : Opd) (t e : ACode)
  | block (id : Nat) (b : ACode)
  | loop (b : ACode)
  | exit (id : Nat)
  | scope (b : ACode)
  | label (l : Nat)
  | rfor (x : Opd) (ps : List Nat) (aa ab : ACode)
  | bad

/-- Knowing less of the slots. -/
def Wk : List AV → List AV → Prop
  | [], [] => True
  | x :: xs, y :: ys => (y = .wild ∨ x = y) ∧ Wk xs ys
  | _, _ => False

theorem Wk.refl (ts : List AV) : Wk ts ts := by
  induction ts with
  | nil => trivial
  | cons x xs ih => exact ⟨.inr rfl, ih⟩

theorem Wk.fr {σ : Sig} {a : Act} {ts us : List AV} (h : Wk ts us) (f : FR σ ts a) : FR σ us a := by
  unfold FR at *
  generalize a.tmps.toList = vs at *
  induction ts generalizing us vs with
  | nil => cases us with
    | nil => exact f
    | cons u us => exact h.elim
  | cons t ts ih => cases us with
    | nil => exact h.elim
    | cons u us =>
      cases vs with
      | nil => have := f.len; simp at this
      | cons v vs =>
        refine .cons ?_ (ih h.2 vs ⟨by have := f.len; simpa using this, fun j x y p q => f.at_ (j + 1) x y (by simpa using p) (by simpa using q)⟩)
        rcases h.1 with e | e
        · rw [e]; exact .wild _
        · rw [← e]; exact f.at_ 0 t v rfl rfl

/-- The state may be taken for one of those: other names (N), less known of the slots, some objects read only (F); names of nothing behind all others (g). -/
structure Again (m : Nat) (Z : List AV → Heap → Prop) (ts : List AV) (h : Heap) : Prop where
  out : (∃ us, Wk ts us ∧ Z us h) ∨ (∃ g N F us hh, RsL (h ++ List.replicate g gho) N F ts us ∧ ObjsR (h ++ List.replicate g gho) N F N hh ∧ N.Nodup ∧ (∀ j, j < m → N[j]? = some j) ∧ Z us hh) ∨ ∃ g us, Wk ts us ∧ Z us (h ++ List.replicate g gho)

/-- What a round leads to. -/
def loopQ (m : Nat) (Z : List AV → Heap → Prop) (Q : Post) : Post
  | .normal, ts, h => Again m Z ts h
  | e, ts, h => Q e ts h

/-- A loop: whatever is closed under its rounds holds here. -/
structure VLoop (m : Nat) (B : Post → List AV → Heap → Prop) (Q : Post) (ts : List AV) (h : Heap) : Prop where
  run : ∀ Z : List AV → Heap → Prop, (∀ ts h Q', B Q' ts h → (∀ e ts' h', Q' e ts' h' → loopQ m Z Q e ts' h') → Z ts h) → Again m Z ts h

/-- One round, and the loop again. -/
def rollQ (m : Nat) (B : Post → List AV → Heap → Prop) (Q : Post) : Post
  | .normal, ts, h => VLoop m B Q ts h
  | e, ts, h => Q e ts h
theorem vloop_roll {m : Nat} {B : Post → List AV → Heap → Prop} {Q : Post} {ts : List AV} {h : Heap} (k : B (rollQ m B Q) ts h) : VLoop m B Q ts h :=
  ⟨fun Z hZ => ⟨.inl ⟨ts, Wk.refl ts, hZ ts h _ k (by intro e ts' h' q; cases e <;> first | exact q.run Z hZ | exact q)⟩⟩⟩

/-- A name of nothing. -/
theorem Sim.ghost {w0 : Guard} {w : World} {σ : Sig} {h : Heap} (s : Sim w0 σ h w) : ∃ τ, Sim w0 τ (h ++ [gho]) w ∧ σ.Le τ := by
  let l : Loc := ⟨0, 0, 0, 0, none⟩
  have hle := s.le_ext l
  have get : ∀ (j : Nat) o, (h ++ [gho])[j]? = some o → o ≠ gho → j < h.length ∧ h[j]? = some o := by
    intro j o hj hne
    rw [List.getElem?_append] at hj
    split at hj
    · rename_i e; exact ⟨e, hj⟩
    · cases hq : j - h.length with
      | zero => rw [hq] at hj; simp at hj; exact absurd hj.symm hne
      | succ q => rw [hq] at hj; simp at hj
  have old : ∀ j m, j < h.length → (σ.ext h.length l).loc j = some m → σ.loc j = some m := by
    intro j m hj hm
    simpa [Sig.ext, Nat.ne_of_lt hj] using hm
  refine ⟨σ.ext h.length l, ⟨s.below, ?_, ?_, s.fro, ?_, ?_, ?_, s.hide, s.ex.step hle (.same rfl) (fun i c ts st m a b => by
    obtain ⟨h1, h2⟩ := get i _ a (by simp [gho])
    exact ⟨h2, old _ _ h1 b⟩) (fun _ a => a), ?vac⟩, hle⟩
  case vac =>
    intro j op m hj hn hm
    by_cases e : j = h.length
    · subst e
      simp [Sig.ext] at hm
      rw [← hm]
    · have hlt : j < h.length := by have := hj.lt; simp at this; omega
      refine s.vac j op m ?_ hn (old _ _ hlt hm)
      rcases hj with hj | hj <;> rw [List.getElem?_append_left hlt] at hj
      · exact .inl hj
      · exact .inr hj
  · intro i hi
    by_cases e : i = h.length
    · exact ⟨l, by simp [Sig.ext, e]⟩
    · obtain ⟨m, hm⟩ := s.dom i (by simp at hi; omega)
      exact ⟨m, hle.loc _ _ hm⟩
  · intro i m hm
    by_cases e : i = h.length
    · simp [e]
    · have : σ.loc i = some m := by simpa [Sig.ext, e] using hm
      have := s.dom' _ _ this
      simp; omega
  · intro j ds o m hj hq hm
    obtain ⟨hlt, hj'⟩ := get j _ hj (fun e => real_gho e.symm hq)
    have M := s.live j ds o m hj' hq (old _ _ hlt hm)
    obtain ⟨c, e, hb, hs, hr⟩ := M.blk
    exact ⟨M.base, M.nofro, M.n, M.opn, M.room, c, e, hb, hs, fun q y z a b => (hr q y z a b).mono hle⟩
  · intro a b ds es o o' m n hab ha hb hqa hqb hm hn
    obtain ⟨h1, h2⟩ := get a _ ha (fun e => real_gho e.symm hqa)
    obtain ⟨h3, h4⟩ := get b _ hb (fun e => real_gho e.symm hqb)
    exact s.apart _ _ _ _ _ _ m n hab h2 h4 hqa hqb (old _ _ h1 hm) (old _ _ h3 hn)
  · intro j ds o m hj hq hm
    obtain ⟨hlt, hj'⟩ := get j _ hj (by simp [gho])
    exact (s.frz j ds o m hj' hq (old _ _ hlt hm)).mono hle

theorem Sim.ghosts {w0 : Guard} {w : World} {σ : Sig} {h : Heap} (s : Sim w0 σ h w) (g : Nat) : ∃ τ, Sim w0 τ (h ++ List.replicate g gho) w ∧ σ.Le τ := by
  induction g with
  | zero => exact ⟨σ, by simpa using s, .refl σ⟩
  | succ g ih =>
    obtain ⟨τ, h1, h2⟩ := ih
    obtain ⟨ρ, h3, h4⟩ := h1.ghost
    exact ⟨ρ, by rw [List.replicate_succ', ← List.append_assoc]; exact h3, h2.trans h4⟩

theorem shape_leN {m : Nat} {w0 : Guard} {w : World} {σ : Sig} {h : Heap} {N F : List Nat} (s : Sim w0 σ h w) (hm : ∀ j, j < m → N[j]? = some j) : σ.LeN m (σ.shape N F h w) :=
  ⟨fun i l hi hl => by simp [Sig.shape, hm i hi, hl], fun b c hb => shape_fro s hb, fun b hb => hb⟩

theorem rsl_FR {w0 : Guard} {w : World} {σ : Sig} {h : Heap} {N F : List Nat} (s : Sim w0 σ h w) {ts us : List AV} {a : Act} (r : RsL h N F ts us) (f : FR σ ts a) : FR (σ.shape N F h w) us a := by
  refine ⟨r.len.trans f.len, ?_⟩
  intro j x y hx hy
  have hj : j < ts.length := by rw [← r.len]; exact (List.getElem?_eq_some_iff.1 hx).1
  exact rs_VR s (r.at_ j ts[j] x (List.getElem?_eq_getElem hj) hx) (f.at_ j _ y (List.getElem?_eq_getElem hj) hy)

def seqQ (N : List AV → Heap → Prop) (Q : Post) : Post
  | .normal, ts, h => N ts h
  | e, ts, h => Q e ts h

def blkQ (id : Nat) (Q : Post) : Post
  | .exit i, ts, h => if i = id then Q .normal ts h else Q (.exit i) ts h
  | e, ts, h => Q e ts h

/-- A block's end: Z holds, by other names perhaps. -/
def blkZ (m : Nat) (id : Nat) (Z : List AV → Heap → Prop) (Q : Post) : Post
  | .normal, ts, h => Again m Z ts h
  | .exit i, ts, h => if i = id then Again m Z ts h else Q (.exit i) ts h
  | e, ts, h => Q e ts h

/-- A block: what its ends come to may be said between. -/
structure VBlk (m : Nat) (B : Post → List AV → Heap → Prop) (id : Nat) (Q : Post) (ts : List AV) (h : Heap) : Prop where
  run : ∀ Z : List AV → Heap → Prop, (∀ ts h, Q .normal ts h → Z ts h) → ∃ Q', B Q' ts h ∧ ∀ e ts' h', Q' e ts' h' → blkZ m id Z Q e ts' h'

theorem vblk_same {m : Nat} {B : Post → List AV → Heap → Prop} {id : Nat} {Q : Post} {ts : List AV} {h : Heap} (k : B (blkQ id Q) ts h) : VBlk m B id Q ts h := by
  refine ⟨fun Z hZ => ⟨blkQ id Q, k, fun e ts' h' q => ?_⟩⟩
  cases e with
  | normal => exact ⟨.inl ⟨ts', Wk.refl ts', hZ _ _ q⟩⟩
  | exit i =>
    simp only [blkQ] at q
    simp only [blkZ]
    split
    · rename_i e; rw [if_pos e] at q; exact ⟨.inl ⟨ts', Wk.refl ts', hZ _ _ q⟩⟩
    · rename_i e; rw [if_neg e] at q; exact q
  | goto l => exact q
  | ret => exact q
  | pan v => exact q

def chkCode (P : Program) : ACode → Code → Bool
  | .skip, .skip | .ret, .ret => true
  | .bad, .refuse _ => true
  | .label l, .label l' => l == l'
  | .exit id, .exit id' => id == id'
  | .region ops, .region _ os false => chkOpers P os ops os.toList
  | .draw ord dir ops, .region _ os true => chkOpers P os ops os.toList && chkDraw os dir ops ord && P.follows .mixedOrders
  | .seq a b, .seq a' b' => chkCode P a a' && chkCode P b b'
  | .cond c t e, .cond c' t' e' => chkOpd c c' && chkCode P t t' && chkCode P e e'
  | .block id b, .block id' b' => id == id' && chkCode P b b'
  | .loop b, .loop b' => chkCode P b b'
  | .scope b, .scope b' => chkCode P b b'
  | .rfor x ps aa ab, .rangeFunc g ps' as bd => chkOpd x g && ps'.toList == ps && chkCode P aa as && chkCode P ab bd
  | _, _ => false

/-- A loop of those slots, assignments, body. -/
def rLC (P : Program) (ps : List Nat) (aa ab : ACode) : LC := ⟨fun fn as bd => (∃ f, P.funcs[fn]? = some f) ∧ chkCode P aa as = true ∧ chkCode P ab bd = true, ps⟩
/-- What a range over a function comes to, by its function's end. -/
def rEnd (i : Nat) (ts : List AV) (Q : Post) : AEnd → Heap → Prop
  | .ret _, h => (match h[i]? with
    | some (.loop _ _ .ready) => withSet h i .dead fun h' => hid (Q .normal ts h')
    | some (.loop _ _ (.done .ret)) => withSet h i .dead fun h' => hid (Q .ret ts h')
    | some (.loop _ _ (.done (.exit id))) => withSet h i .dead fun h' => hid (Q (.exit id) ts h')
    | _ => False)
  | .pan v, h => hid (Q (.pan v) ts h)

noncomputable def vc (P : Program) (m : Nat) : ACode → Post → List AV → Heap → Prop
  | .skip, Q, ts, h => Q .normal ts h
  | .bad, _, _, _ => False
  | .label _, Q, ts, h => Q .normal ts h
  | .ret, Q, ts, h => Q .ret ts h
  | .exit id, Q, ts, h => Q (.exit id) ts h
  | .region ops, Q, ts, h => hid (vcOps P (fun ts h => Q .normal ts h) (fun ts v h => Q (.pan v) ts h) ops ts h)
  | .draw ord dir ops, Q, ts, h => hid (vcDraw P dir ops (fun ts h => Q .normal ts h) ord [] ts h)
  | .seq a b, Q, ts, h => hid (vc P m a (seqQ (fun ts h => hid (vc P m b Q ts h)) Q) ts h)
  | .cond c t e, Q, ts, h => match ev ts c with | .bool b => bcase b (hid (vc P m t Q ts h)) (hid (vc P m e Q ts h)) | _ => False
  | .block id b, Q, ts, h => VBlk m (fun Q ts h => hid (vc P m b Q ts h)) id Q ts h
  | .loop b, Q, ts, h => VLoop m (fun Q ts h => hid (vc P m b Q ts h)) Q ts h
  | .scope b, Q, ts, h => hid (vc P m b Q ts h)
  | .rfor x ps aa ab, Q, ts, h => match ev ts x with
    | .fn (.func f) first captured => hasBody P f = true ∧ withNew h (.loop (rLC P ps aa ab) ts .ready) fun i h' => forceVs (first ++ [.yld i] ++ captured) fun vs => ACalls P f vs h' (rEnd i ts Q)
    | _ => False

/-- Are there no jumps in it? -/
def noGoto : ACode → Bool
  | .seq a b | .cond _ a b => noGoto a && noGoto b
  | .block _ b | .loop b | .scope b => noGoto b
  | _ => true

/-- No range over a function. -/
def noRfor : ACode → Bool
  | .rfor .. => false
  | .seq a b | .cond _ a b => noRfor a && noRfor b
  | .block _ b | .loop b | .scope b => noRfor b
  | _ => true

theorem AWp.mono {P : Program} {r : RM} {D : DM} {m : Nat} {c : Code} {Q Q' : Post} {ts : List AV} {h : Heap} (a : AWp P r D m c Q ts h) (hq : ∀ e ts h, Q e ts h → Q' e ts h) : AWp P r D m c Q' ts h := by
  intro w0 σ w ac s f d
  refine wpX_mono (a w0 σ w ac s f d) ?_
  rintro e a' w' ⟨ae, us, h', σ', h1, h2, h3, h4, h5, h6⟩
  exact ⟨ae, us, h', σ', h1, hq _ _ _ h2, h3, h4, h5, h6⟩

def NoGoto (Q : Post) : Prop := ∀ l ts h, ¬ Q (.goto l) ts h

theorem vc_sound {P : Program} {r : RM} {D : DM} {m : Nat} : ∀ (ac : ACode) (c : Code) (Q : Post) (ts : List AV) (h : Heap), ((r = ⟨none, true⟩ ∧ D.fl = true) ∨ noRfor ac = true) → NoGoto Q → chkCode P ac c = true → vc P m ac Q ts h → AWp P r D m c Q ts h := by
  intro ac
  induction ac with
  | skip =>
    intro c Q ts h hnr hng hc v w0 σ w a s f d
    cases c <;> simp [chkCode] at hc
    exact wpX_skip ⟨.normal, ts, h, σ, .normal, v, s, f, d, .refl m σ⟩
  | bad => intro c Q ts h hnr hng hc v; exact v.elim
  | label l =>
    intro c Q ts h hnr hng hc v w0 σ w a s f d
    cases c <;> simp [chkCode] at hc
    exact wpX_label ⟨.normal, ts, h, σ, .normal, v, s, f, d, .refl m σ⟩
  | ret =>
    intro c Q ts h hnr hng hc v w0 σ w a s f d
    cases c <;> simp [chkCode] at hc
    exact wpX_ret ⟨.ret, ts, h, σ, .ret, v, s, f, d, .refl m σ⟩
  | exit id =>
    intro c Q ts h hnr hng hc v w0 σ w a s f d
    cases c <;> simp [chkCode] at hc
    subst hc
    exact wpX_exit ⟨.exit id, ts, h, σ, .exit id, v, s, f, d, .refl m σ⟩
  | region ops =>
    intro c Q ts h hnr hng hc v w0 σ w a s f d
    cases c <;> first | (simp [chkCode] at hc; done) | skip
    rename_i id os dr
    cases dr
    · simp only [chkCode] at hc
      exact wpX_of_in (n := 0) (wpIn_region_list (vcOps_sound ops os.toList ts h hc ((hid_iff _).1 v) w0 σ w a s f d))
    · simp [chkCode] at hc
  | draw ord dir ops =>
    intro c Q ts h hnr hng hc v
    cases c <;> first | (simp [chkCode] at hc; done) | skip
    rename_i id os dr
    cases dr
    · simp [chkCode] at hc
    · simp only [chkCode, Bool.and_eq_true] at hc
      exact vdraw_sound hc.2 hc.1.1 hc.1.2 ((hid_iff _).1 v)
  | seq x y ihx ihy =>
    intro c Q ts h hnr hng hc v w0 σ w a s f d
    cases c <;> simp [chkCode] at hc
    obtain ⟨h1, h2⟩ := hc
    have hn2 : ((r = ⟨none, true⟩ ∧ D.fl = true) ∨ noRfor x = true) ∧ ((r = ⟨none, true⟩ ∧ D.fl = true) ∨ noRfor y = true) := by
      rcases hnr with q | q
      · exact ⟨.inl q, .inl q⟩
      · simp only [noRfor, Bool.and_eq_true] at q; exact ⟨.inr q.1, .inr q.2⟩
    have := ihx _ _ ts h hn2.1 (by intro l ts h q; exact hng l ts h q) h1 ((hid_iff _).1 v) w0 σ w a s f d
    refine wpX_seq (wpX_mono this ?_)
    rintro e a' w' ⟨ae, us, h', σ', r1, r2, r3, r4, r5, r6⟩
    cases r1 with
    | normal => exact wpX_mono (ihy _ _ us h' hn2.2 hng h2 ((hid_iff _).1 r2) w0 σ' w' a' r3 r4 r5) (fun e a w q => q.mono r6)
    | exit id => exact ⟨_, us, h', σ', .exit id, r2, r3, r4, r5, r6⟩
    | goto l => exact absurd r2 (hng _ _ _)
    | ret => exact ⟨_, us, h', σ', .ret, r2, r3, r4, r5, r6⟩
    | pan v u hv => exact ⟨_, us, h', σ', .pan v u hv, r2, r3, r4, r5, r6⟩
  | cond x y z ihy ihz =>
    intro c Q ts h hnr hng hc v w0 σ w a s f d
    cases c <;> first | (simp [chkCode] at hc; done) | skip
    rename_i cc thn els
    simp only [chkCode, Bool.and_eq_true] at hc
    obtain ⟨⟨h1, h2⟩, h3⟩ := hc
    simp only [vc] at v
    split at v
    · rename_i b e
      have hr := ev_VR f h1
      rw [e] at hr
      have he : a.eval cc = .bool b := by
        revert hr
        generalize a.eval cc = u
        intro hr; cases hr; rfl
      have hn2 : ((r = ⟨none, true⟩ ∧ D.fl = true) ∨ noRfor y = true) ∧ ((r = ⟨none, true⟩ ∧ D.fl = true) ∨ noRfor z = true) := by
        rcases hnr with q | q
        · exact ⟨.inl q, .inl q⟩
        · simp only [noRfor, Bool.and_eq_true] at q; exact ⟨.inr q.1, .inr q.2⟩
      refine wpX_cond_split he (fun ht => ?_) (fun hf => ?_)
      · subst ht; exact ihy _ _ ts h hn2.1 hng h2 ((hid_iff _).1 v) w0 σ w a s f d
      · subst hf; exact ihz _ _ ts h hn2.2 hng h3 ((hid_iff _).1 v) w0 σ w a s f d
    · exact v.elim
  | block id b ih =>
    intro c Q ts h hnr hng hc v w0 σ w a s f d
    cases c <;> simp [chkCode] at hc
    rename_i id' bd
    obtain ⟨rfl, h2⟩ := hc
    obtain ⟨Q', hB, hQ⟩ := v.run (fun ts h => ∀ σ w a, Sim w0 σ h w → FR σ ts a → DOk D σ a.defers → Conc D m w0 σ Q .normal a w) (fun ts h q σ w a s f d => ⟨.normal, ts, h, σ, .normal, q, s, f, d, .refl m σ⟩)
    have again : ∀ {σ' : Sig} {us : List AV} {h' : Heap} {w' : World} {a' : Act}, Again m (fun ts h => ∀ σ w a, Sim w0 σ h w → FR σ ts a → DOk D σ a.defers → Conc D m w0 σ Q .normal a w) us h' → Sim w0 σ' h' w' → FR σ' us a' → DOk D σ' a'.defers → σ.LeN m σ' → Conc D m w0 σ Q .normal a' w' := by
      intro σ' us h' w' a' q r3 r4 r5 r6
      rcases q.out with ⟨us3, k1, k2⟩ | ⟨g, N, F, us3, hh, k1, k2, k3, k4, k5⟩ | ⟨g, us3, k1, k2⟩
      · exact (k2 σ' w' a' r3 (k1.fr r4) r5).mono r6
      · obtain ⟨τ, g1, g2⟩ := r3.ghosts g
        exact (k5 _ w' a' (sim_shape g1 k2 k3) (rsl_FR g1 k1 (r4.mono g2)) (r5.mono fun b hb => g2.mrk b hb)).mono ((r6.trans g2.toN).trans (shape_leN g1 k4))
      · obtain ⟨τ, g1, g2⟩ := r3.ghosts g
        exact (k2 τ w' a' g1 (k1.fr (r4.mono g2)) (r5.mono g2.mrk)).mono (r6.trans g2.toN)
    have hng' : NoGoto Q' := fun l ts h q => hng l ts h (hQ _ _ _ q)
    have := ih _ _ ts h hnr hng' h2 ((hid_iff _).1 hB) w0 σ w a s f d
    refine wpX_block (wpX_mono this ?_)
    rintro e a' w' ⟨ae, us, h', σ', r1, r2', r3, r4, r5, r6⟩
    have r2 := hQ _ _ _ r2'
    cases r1 with
    | normal => exact again r2 r3 r4 r5 r6
    | exit i =>
      simp only [Exit.inBlock]
      simp only [blkZ] at r2
      split
      · rename_i e; rw [if_pos e] at r2; exact again r2 r3 r4 r5 r6
      · rename_i e; rw [if_neg e] at r2; exact ⟨_, us, h', σ', .exit i, r2, r3, r4, r5, r6⟩
    | goto l => exact absurd r2 (hng _ _ _)
    | ret => exact ⟨_, us, h', σ', .ret, r2, r3, r4, r5, r6⟩
    | pan v u hv => exact ⟨_, us, h', σ', .pan v u hv, r2, r3, r4, r5, r6⟩
  | loop b ih =>
    intro c Q ts h hnr hng hc v w0 σ w a s f d
    cases c <;> simp [chkCode] at hc
    rename_i bd
    have hz := v.run (fun ts h => ∀ σ w a, Sim w0 σ h w → FR σ ts a → DOk D σ a.defers → LoopW P r bd (Conc D m w0 σ Q) a w) (by
      intro ts1 h1 Q1 hB hQ1 σ1 w1 a1 s1 f1 d1
      refine LoopW.of ?_
      have hng' : NoGoto Q1 := fun l ts h q => hng l ts h (hQ1 _ _ _ q)
      refine wpX_mono (ih _ _ ts1 h1 hnr hng' hc ((hid_iff _).1 hB) w0 σ1 w1 a1 s1 f1 d1) ?_
      rintro e a2 w2 ⟨ae, us2, h2, σ2, r1, r2', r3, r4, r5, r6⟩
      have r2 := hQ1 _ _ _ r2'
      cases r1 with
      | normal =>
        rcases r2.out with ⟨us3, k1, k2⟩ | ⟨g, N, F, us3, hh, k1, k2, k3, k4, k5⟩ | ⟨g, us3, k1, k2⟩
        · exact LoopW.mono (fun e a w q => q.mono r6) (k2 σ2 w2 a2 r3 (k1.fr r4) r5)
        · obtain ⟨τ, g1, g2⟩ := r3.ghosts g
          exact LoopW.mono (fun e a w q => q.mono ((r6.trans g2.toN).trans (shape_leN g1 k4))) (k5 _ w2 a2 (sim_shape g1 k2 k3) (rsl_FR g1 k1 (r4.mono g2)) (r5.mono fun b hb => g2.mrk b hb))
        · obtain ⟨τ, k3, k4⟩ := r3.ghosts g
          exact LoopW.mono (fun e a w q => q.mono (r6.trans k4.toN)) (k2 τ w2 a2 k3 (k1.fr (r4.mono k4)) (r5.mono k4.mrk))
      | exit i => exact ⟨_, us2, h2, σ2, .exit i, r2, r3, r4, r5, r6⟩
      | goto l => exact absurd r2 (hng _ _ _)
      | ret => exact ⟨_, us2, h2, σ2, .ret, r2, r3, r4, r5, r6⟩
      | pan v u hv => exact ⟨_, us2, h2, σ2, .pan v u hv, r2, r3, r4, r5, r6⟩)
    rcases hz.out with ⟨us3, k1, k2⟩ | ⟨g, N, F, us3, hh, k1, k2, k3, k4, k5⟩ | ⟨g, us3, k1, k2⟩
    · exact LoopW.wp (k2 σ w a s (k1.fr f) d)
    · obtain ⟨τ, g1, g2⟩ := s.ghosts g
      exact LoopW.wp (LoopW.mono (fun e a w q => q.mono (g2.toN.trans (shape_leN g1 k4))) (k5 _ w a (sim_shape g1 k2 k3) (rsl_FR g1 k1 (f.mono g2)) (d.mono fun b hb => g2.mrk b hb)))
    · obtain ⟨τ, k3, k4⟩ := s.ghosts g
      exact LoopW.wp (LoopW.mono (fun e a w q => q.mono k4.toN) (k2 τ w a k3 (k1.fr (f.mono k4)) (d.mono k4.mrk)))
  | scope b ih =>
    intro c Q ts h hnr hng hc v w0 σ w a s f d
    cases c <;> simp [chkCode] at hc
    refine wpX_scope_plain ?_ (ih _ _ ts h hnr hng hc ((hid_iff _).1 v) w0 σ w a s f d)
    rintro l a' w' ⟨ae, us, h', σ', r1, r2, _⟩
    cases r1
    exact hng _ _ _ r2
  | rfor x ps aa ab =>
    intro c Q ts h hnr hng hc v w0 σ w a s f d
    cases c <;> first | (simp [chkCode] at hc; done) | skip
    rename_i g ps' as bd
    simp only [chkCode, Bool.and_eq_true, beq_iff_eq] at hc
    obtain ⟨⟨⟨h1, h2⟩, h3⟩, h4⟩ := hc
    obtain ⟨rfl, hfl⟩ : r = ⟨none, true⟩ ∧ D.fl = true := by
      rcases hnr with q | q
      · exact q
      · simp [noRfor] at q
    simp only [vc] at v
    have hr := ev_VR f h1
    split at v
    rotate_left
    · exact v.elim
    rename_i gf first captured e
    rw [e] at hr
    obtain ⟨hb, v⟩ := v
    replace v := withNew_elim v
    rw [forceVs_eq] at v
    obtain ⟨vf, hvf⟩ : ∃ vf, a.eval g = vf := ⟨_, rfl⟩
    rw [hvf] at hr
    cases hr with
    | fn _ _ _ as' cs' hl hh hl' hh' =>
      refine wpX_rangeFunc fun fn hfn => ?_
      obtain ⟨s1, le1⟩ := s.enterLoop (c := rLC P ps aa ab) (fn := fn) (as := as) (bd := bd) ⟨hfn, h3, h4⟩ f
      have hps : (rLC P ps aa ab).ps.toArray = ps' := by rw [← h2]; simp [rLC]
      rw [hps] at s1
      have he := run_enterLoop_outer (P := P) (w := w) fn a.tmps ps' as bd
      generalize (w.alloc (.deferred (some []))).alloc (.loop { state := .ready, pending := none, fn := fn, tmps := a.tmps, params := ps', assign := as, body := bd, defers := w.heap.size }) = w1 at s1 he
      refine ⟨_, _, w1, { target := .fn (.func gf) cs', args := as' ++ #[.func (.yield (w.heap.size + 1)) #[] #[]] }, w1, gf, as' ++ #[.func (.yield (w.heap.size + 1)) #[] #[]] ++ cs', w1, he, ?_, ?_, ?_⟩
      · simp [resolve, hvf, Deferred.ofValue]
        rfl
      · exact call_run hb (as' ++ #[.func (.yield (w.heap.size + 1)) #[] #[]] ++ cs') _
      have rr : VRs { σ.ext h.length ⟨w.heap.size + 1, 0, 0, 0, none⟩ with mrk := fun b => σ.mrk b ∨ b = w.heap.size } (first ++ [.yld h.length] ++ captured) (as' ++ #[Value.func (Fn.yield (w.heap.size + 1)) #[] #[]] ++ cs').toList := by
        simp only [Array.toList_append]
        exact VRs.append (VRs.append ⟨by simpa using hl, fun j x y p q => (hh j x y p (by simpa using q)).mono le1⟩ (.cons (.yld h.length ⟨w.heap.size + 1, 0, 0, 0, none⟩ (if_pos rfl)) (.nil _))) ⟨by simpa using hl', fun j x y p q => (hh' j x y p (by simpa using q)).mono le1⟩
      have cc := v.run w0 _ w1 _ s1 rr
      rw [Array.toArray_toList] at cc
      refine Calls.mono cc ?_
      · rintro en w' ⟨r, h', σ', hr, hR, s', le'⟩
        have le2 := le1.trans le'
        have dok : DOk D σ' ([{ target := .collected w.heap.size, args := #[] }] ++ a.defers) := by
          obtain ⟨bs, q1, q2, q3, q4⟩ := d.out
          refine ⟨⟨w.heap.size :: bs, by rw [q1]; rfl, List.nodup_cons.2 ⟨fun hm => ?_, q2⟩, ?_, fun q => by rw [hfl] at q; cases q⟩, fun b hb => le2.mrk b (d.old b hb)⟩
          · have := (s.ex.mrk _ (q3 _ hm).1).2
            exact absurd (Array.getElem?_eq_some_iff.1 this).1 (by omega)
          · intro b hb
            rcases List.mem_cons.1 hb with rfl | hb
            · refine ⟨le'.mrk _ (.inr rfl), fun hM => ?_⟩
              have := (s.ex.mrk _ (d.old _ hM)).2
              exact absurd (Array.getElem?_eq_some_iff.1 this).1 (by omega)
            · exact ⟨le2.mrk b (q3 b hb).1, (q3 b hb).2⟩
        have fin : ∀ {ae : AExit} {ex : Exit} {h2 : Heap} {w2 : World}, XRel σ' ae ex → Q ae ts h2 → Sim w0 σ' h2 w2 → Conc D m w0 σ Q ex { a with defers := [{ target := .collected w.heap.size, args := #[] }] ++ a.defers } w2 :=
          fun hx hq hs => ⟨_, ts, _, σ', hx, hq, hs, f.mono le2, dok, le2.toN⟩
        have hloc : σ'.loc h.length = some ⟨w.heap.size + 1, 0, 0, 0, none⟩ := le'.loc _ _ (if_pos rfl)
        cases hr with
        | pan v u hu => exact fin (.pan v u hu) ((hid_iff _).1 hR) s'
        | ret v u hu =>
          simp only [rEnd] at hR
          split at hR
          · rename_i c1 t1 e1
            obtain ⟨fn1, t2, as1, bd1, d1, _, q2, _⟩ := (s'.ex.loop _ _ _ _ _ e1 hloc).blk
            exact ⟨none, _, run_endLoop q2 (by simp [LSt.state]), fin .normal ((hid_iff _).1 (withSet_elim hR)) (s'.putLoop e1 hloc _ _ (.inl rfl))⟩
          · rename_i c1 t1 e1
            obtain ⟨fn1, t2, as1, bd1, d1, _, q2, _⟩ := (s'.ex.loop _ _ _ _ _ e1 hloc).blk
            exact ⟨some .ret, _, run_endLoop q2 (by simp [LSt.state]), wpX_ret (fin .ret ((hid_iff _).1 (withSet_elim hR)) (s'.putLoop e1 hloc _ _ (.inl rfl)))⟩
          · rename_i c1 t1 id e1
            obtain ⟨fn1, t2, as1, bd1, d1, _, q2, _⟩ := (s'.ex.loop _ _ _ _ _ e1 hloc).blk
            exact ⟨some (.exit id), _, run_endLoop q2 (by simp [LSt.state]), wpX_exit (fin (.exit id) ((hid_iff _).1 (withSet_elim hR)) (s'.putLoop e1 hloc _ _ (.inl rfl)))⟩
          · exact hR.elim

/-! ### functions -/
inductive RV where
  | tmp (t : Nat)
  | cell (t : Nat) (n : Option Nat)

def vcRes (ts : List AV) (h : Heap) : List RV → (List AV → Prop) → Prop
  | [], K => K []
  | .tmp t :: r, K => vcRes ts h r fun vs => K (tget ts t :: vs)
  | .cell t n :: r, K => vcLoad h (tget ts t) n fun v => vcRes ts h r fun vs => K (v :: vs)

def chkRes (P : Program) : List RV → List ResultVar → Bool
  | [], [] => true
  | .tmp t :: r, .tmp t' :: r' => t == t' && chkRes P r r'
  | .cell t n :: r, .cell t' ty :: r' => t == t' && chkLoad P ty n && chkRes P r r'
  | _, _ => false

def packA : List AV → AV
  | [v] => v
  | vs => .tup vs

/-- The same, reckoned one behind the other. -/
def packK (vs : List AV) (K : AV → Prop) : Prop := forceVs vs fun vs => match vs with | [v] => K v | vs => K (.tup vs)

theorem packK_eq (vs : List AV) (K : AV → Prop) : packK vs K = K (packA vs) := by
  unfold packK packA
  rw [forceVs_eq]
  split <;> rfl

/-- One result variable, read. -/
def resultOf (tmps : Array Value) : ResultVar → Sem Value
  | .tmp t => pure (tmps.getD t undef)
  | .cell a t => do loadVar t (← asAddr (tmps.getD a undef))

theorem run_loadVar_at {P : Program} {t : TypeId} {v : Value} {w : World} (h : ∃ a, v = .pointer (some a)) : (do loadVar t (← asAddr v) : Sem Value).run P w = (Instr.loadAt t v).run P w := by
  obtain ⟨a, rfl⟩ := h; rfl

theorem vcRes_sound {P : Program} {w0 : Guard} {w : World} {σ : Sig} {h : Heap} {ts : List AV} {a : Act} (s : Sim w0 σ h w) (f : FR σ ts a) : ∀ (rs : List RV) (qs : List ResultVar) (K : List AV → Prop), chkRes P rs qs = true → vcRes ts h rs K →
    ∃ (vs : List AV) (us : List Value), (qs.mapM (resultOf a.tmps)).run P w = .ok us w ∧ VRs σ vs us ∧ K vs
  | [], qs, K, hc, v => by
    cases qs with
    | nil => exact ⟨[], [], by simp, .nil σ, v⟩
    | cons q qs => simp [chkRes] at hc
  | .tmp t :: rs, qs, K, hc, v => by
    cases qs with
    | nil => simp [chkRes] at hc
    | cons q qs =>
      cases q with
      | cell a t => simp [chkRes] at hc
      | tmp t' =>
        simp only [chkRes, Bool.and_eq_true, beq_iff_eq] at hc
        obtain ⟨rfl, hc⟩ := hc
        obtain ⟨vs, us, h1, h2, h3⟩ := vcRes_sound s f rs qs _ hc v
        refine ⟨tget ts t :: vs, a.tmps.getD t undef :: us, ?_, .cons (tget_VR f t) h2, h3⟩
        simp only [List.mapM_cons, resultOf, Sem.run_bind, Sem.run_pure, Result.andThen_ok, h1]
  | .cell t n :: rs, qs, K, hc, v => by
    cases qs with
    | nil => simp [chkRes] at hc
    | cons q qs =>
      cases q with
      | tmp t => simp [chkRes] at hc
      | cell t' ty =>
        simp only [chkRes, Bool.and_eq_true, beq_iff_eq] at hc
        obtain ⟨⟨rfl, hl⟩, hc⟩ := hc
        obtain ⟨hp, x, v', hr, hx, hk⟩ := vcLoad_val (P := P) (w := w) s hl (tget_VR f t) v
        obtain ⟨vs, us, h1, h2, h3⟩ := vcRes_sound s f rs qs _ hc hk
        refine ⟨x :: vs, v' :: us, ?_, .cons hx h2, h3⟩
        have := run_loadVar_at (P := P) (t := ty) (w := w) hp
        simp only [List.mapM_cons, Sem.run_bind, resultOf] at this ⊢
        simp only [this, hr, Result.andThen_ok, Sem.run_pure, h1]

/-- What an end may be taken for. -/
def EndR (h : Heap) (N F : List Nat) : AEnd → AEnd → Prop
  | .ret x, .ret y => Rs h N F x y
  | .pan x, .pan y => Rs h N F x y
  | _, _ => False

/-- A function's end, as its contract says it. -/
structure Back (m : Nat) (R : AEnd → Heap → Prop) (e : AEnd) (h : Heap) : Prop where
  out : R e h ∨ ∃ N F e' hh, EndR h N F e e' ∧ ObjsR h N F N hh ∧ N.Nodup ∧ (∀ j, j < m → N[j]? = some j) ∧ R e' hh
theorem Back.mk' {m : Nat} {R : AEnd → Heap → Prop} {e : AEnd} {h : Heap} (k : ∃ N F e' hh, EndR h N F e e' ∧ ObjsR h N F N hh ∧ N.Nodup ∧ (∀ j, j < m → N[j]? = some j) ∧ R e' hh) : Back m R e h := ⟨.inr k⟩

def retQ (rs : List RV) (R : AEnd → Heap → Prop) : Post
  | .normal, ts, h => vcRes ts h rs fun vs => packK vs fun v => fin (R (.ret v) h)
  | .ret, ts, h => vcRes ts h rs fun vs => packK vs fun v => fin (R (.ret v) h)
  | .pan v, _, h => fin (R (.pan v) h)
  | _, _, _ => False

def chkFn (P : Program) (f : FuncId) (n : Nat) (rs : List RV) (ac : ACode) : Bool :=
  match P.funcs[f]? with
  | some fn => fn.ntmps == n && chkRes P rs fn.results.toList && (match fn.body with | some c => chkCode P ac c | none => false)
  | none => false

theorem results_run {P : Program} {fn : Func} {w : World} {tmps : Array Value} {us : List Value} (h : (fn.results.toList.mapM (resultOf tmps)).run P w = .ok us w) :
    (results fn tmps).run P w = .ok (if h : us.toArray.size = 1 then us.toArray[0] else .tuple us.toArray) w := by
  have e : (fn.results.mapM (resultOf tmps) : Sem (Array Value)).run P w = .ok us.toArray w := by
    rw [Array.mapM_eq_mapM_toList, Sem.run_map, h]; rfl
  have key : ∀ g : ResultVar → Sem Value, g = resultOf tmps → (do let vs ← fn.results.mapM g; pure (if h : vs.size = 1 then vs[0] else .tuple vs) : Sem Value).run P w = .ok (if h : us.toArray.size = 1 then us.toArray[0] else .tuple us.toArray) w := by
    intro g hg
    subst hg
    simp only [Sem.run_bind, e, Result.andThen_ok, Sem.run_pure]
  exact key _ (by funext r; cases r <;> rfl)

/-- The marks are taken. -/
theorem leavesM_marks {P : Program} {fn : Func} {tmps : Array Value} {S : Ending → World → Prop} {ds : List Deferred} {u : FrameMode} (hu : u ≠ .run) {w0 : Guard} {h : Heap} : ∀ (bs : List Nat) (τ : Sig) (w2 : World), bs.Nodup → (∀ b ∈ bs, τ.mrk b) → Sim w0 τ h w2 →
    (∀ w3, Sim w0 { τ with mrk := fun b => τ.mrk b ∧ b ∉ bs } h w3 → LeavesInM Fence.wide 0 P fn tmps S ds u w3) → LeavesInM Fence.wide 0 P fn tmps S (bs.map mkD ++ ds) u w2 := by
  intro bs
  induction bs with
  | nil => intro τ w2 _ _ s2 k2; exact k2 w2 (s2.mrkW _ fun b hb => s2.ex.mrk b hb.1)
  | cons b bs ih =>
    intro τ w2 hn hm s2 k2
    obtain ⟨hn1, hn2⟩ := List.nodup_cons.1 hn
    have hb := hm b (List.mem_cons_self ..)
    refine ⟨hu, .inl ⟨b, w2.putObj b (.deferred none), rfl, run_takeDeferred (s2.ex.mrk b hb).2, ?_⟩⟩
    refine ih { τ with mrk := fun c => τ.mrk c ∧ c ≠ b } _ hn2 (fun c hc => ⟨hm c (List.mem_cons_of_mem _ hc), fun e => hn1 (e ▸ hc)⟩) (s2.unmark hb) ?_
    intro w3 s3
    refine k2 w3 (s3.mrkW (fun c => τ.mrk c ∧ c ∉ b :: bs) ?_)
    intro c hc
    simp only [List.mem_cons, not_or] at hc
    exact s3.ex.mrk c ⟨⟨hc.1, hc.2.1⟩, hc.2.2⟩

theorem acalls_of_vc {P : Program} {f : FuncId} {n : Nat} {rs : List RV} {ac : ACode} (hc : chkFn P f n rs ac = true) {args : List AV} {h : Heap} {R : AEnd → Heap → Prop}
    (v0 : forceL (args ++ List.replicate (n - args.length) .wild) fun ts => hid (vc P h.length ac (retQ rs (Back h.length R)) ts h)) : ACalls P f args h R := by
  rw [forceL_eq, hid_eq] at v0
  have v := v0
  refine ⟨fun w0 σ w vals s hv => ?_⟩
  unfold chkFn at hc
  cases hf : P.funcs[f]? with
  | none => simp [hf] at hc
  | some fn =>
    simp only [hf, Bool.and_eq_true, beq_iff_eq] at hc
    obtain ⟨⟨hn, hr⟩, hb⟩ := hc
    cases hbody : fn.body with
    | none => simp [hbody] at hb
    | some c =>
      rw [hbody] at hb
      have hng : NoGoto (retQ rs (Back h.length R)) := fun l ts h q => q
      have aw := vc_sound (r := ⟨none, true⟩) (D := ⟨[], σ.mrk, true⟩) ac c _ _ _ (.inl ⟨rfl, rfl⟩) hng hb v w0 σ w { tmps := vals.toArray ++ Array.replicate (fn.ntmps - vals.toArray.size) undef, defers := [] } s (by
        unfold FR
        simp only [Array.toList_append, Array.toList_replicate, List.size_toArray]
        refine VRs.append hv ?_
        rw [hn, ← hv.len]
        exact VRs.replicate_wild σ _ _ (by simp)) ⟨⟨[], rfl, List.nodup_nil, by simp, fun _ => rfl⟩, fun _ h => h⟩
      refine (callsIn_wide (n := 0)).1 (wpX_callsIn hf hbody (wpX_mono aw ?_))
      rintro e a w' ⟨ae, ts, h', σ', r1, r2, r3, r4, r5, r6⟩
      obtain ⟨bs, q1, q2, q3, _⟩ := r5.out
      rw [List.append_nil] at q1
      -- the marks are taken
      let σt : Sig := { σ' with mrk := fun b => σ'.mrk b ∧ b ∉ bs }
      have take : ∀ {S : Ending → World → Prop} {u : FrameMode}, u ≠ .run → (∀ w2, Sim w0 σt h' w2 → LeavesInM Fence.wide 0 P fn a.tmps S [] u w2) → LeavesInM Fence.wide 0 P fn a.tmps S a.defers u w' := by
        intro S u hu k
        rw [q1]
        clear q1
        have := leavesM_marks (fn := fn) (tmps := a.tmps) (S := S) (ds := []) hu bs σ' w' q2 (fun b hb => (q3 b hb).1) r3 k
        rwa [List.append_nil] at this
      have vrt : ∀ {x : AV} {v : Value}, VR σ' x v → VR σt x v := fun r => r.mrkW r3.dom' _
      have le0 : ∀ {τ : Sig}, σt.LeN h.length τ → σ.Le τ := fun k => ⟨fun i l hl => k.loc i l (s.dom' i l hl) (r6.loc i l (s.dom' i l hl) hl), fun b c hb => k.fro b c (r6.fro b c hb), fun b hb => k.mrk b ⟨r6.mrk b hb, fun hm => (q3 b hm).2 hb⟩⟩
      have back : ∀ {w2 : World}, Sim w0 σt h' w2 → ∀ (r : AEnd) (en : Ending), ERel σt r en → Back h.length R r h' → ∃ r h'' σ'', ERel σ'' r en ∧ R r h'' ∧ Sim w0 σ'' h'' w2 ∧ σ.Le σ'' := by
        rintro w2 s2 r en hr ⟨hR | ⟨N, F, e', hh, k1, k2, k3, k4, k5⟩⟩
        · exact ⟨r, h', σt, hr, hR, s2, le0 (.refl _ _)⟩
        refine ⟨e', hh, σt.shape N F h' w2, ?_, k5, sim_shape s2 k2 k3, le0 (shape_leN s2 k4)⟩
        cases hr with
        | ret v u hv => cases e' with
          | ret y => exact .ret _ _ (rs_VR s2 k1 hv)
          | pan y => exact k1.elim
        | pan v u hv => cases e' with
          | ret y => exact k1.elim
          | pan y => exact .pan _ _ (rs_VR s2 k1 hv)
      have fin1 : vcRes ts h' rs (fun vs => packK vs fun v => fin (Back h.length R (.ret v) h')) → LeavesInM Fence.wide 0 P fn a.tmps (fun e w' => ∃ r h' σ', ERel σ' r e ∧ R r h' ∧ Sim w0 σ' h' w' ∧ σ.Le σ') a.defers .returning w' := by
        intro q
        refine take (by simp) fun w2 s2 => ?_
        simp only [packK_eq, fin_eq] at q
        have f2 : FR σt ts a := r4.mrkW r3.dom' _
        obtain ⟨vs, us, h1, h2, h3⟩ := vcRes_sound (P := P) s2 f2 rs fn.results.toList _ hr q
        refine ⟨_, results_run h1, back s2 (.ret (packA vs)) _ (.ret _ _ ?_) h3⟩
        have hlen := h2.len
        cases vs with
        | nil =>
          have : us = [] := List.length_eq_zero_iff.1 (by simpa using hlen.symm)
          subst this
          exact .tup [] #[] rfl (by intro j x y q; simp at q)
        | cons x vs =>
          cases us with
          | nil => simp at hlen
          | cons u us =>
            cases vs with
            | nil =>
              have : us = [] := List.length_eq_zero_iff.1 (by simpa using hlen.symm)
              subst this
              exact h2.at_ 0 x u rfl rfl
            | cons y vs =>
              cases us with
              | nil => simp at hlen
              | cons u' us =>
                simp only [packA, List.size_toArray, List.length_cons]
                rw [dif_neg (by omega)]
                exact .tup _ _ (by simpa using hlen) (fun j a b p q => h2.at_ j a b p (by simpa using q))
      cases r1 with
      | normal => exact fin1 r2
      | ret => exact fin1 r2
      | exit id => exact r2.elim
      | goto l => exact r2.elim
      | pan v u hu => exact take (by simp) fun w2 s2 => back s2 (.pan v) _ (.pan v u (vrt hu)) (fin_el r2)

end Go.Proofs.YtginchgkbgcimaaDoor.AL
