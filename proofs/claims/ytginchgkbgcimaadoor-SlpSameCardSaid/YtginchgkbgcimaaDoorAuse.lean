/- Using contracts: calls in another heap, loops. -/
import Derived.Test.YtginchgkbgcimaaDoorAwp
namespace Go.Proofs.YtginchgkbgcimaaDoor.AL
open Go Go.RowKit

theorem andEnd_ret {K E : Cont} {v : AV} {h : Heap} (k : K v h) : andEnd K E (.ret v) h := k

/-- The same object, read only from now on. -/
def AObj.frz : AObj → AObj
  | .cells cs o => .fro cs o
  | o => o

def frzH (F : List Nat) : Nat → Heap → Heap
  | _, [] => []
  | n, o :: os => (if F.contains n then o.frz else o) :: frzH F (n + 1) os

theorem frzH_length (F : List Nat) (n : Nat) (h : Heap) : (frzH F n h).length = h.length := by
  induction h generalizing n with
  | nil => rfl
  | cons o os ih => simp [frzH, ih]

theorem frzH_get (F : List Nat) (n : Nat) (h : Heap) (i : Nat) : (frzH F n h)[i]? = (h[i]?).map fun o => if F.contains (n + i) then o.frz else o := by
  induction h generalizing n i with
  | nil => simp [frzH]
  | cons o os ih =>
    cases i with
    | zero => simp [frzH]
    | succ i => simp only [frzH, List.getElem?_cons_succ, ih]; rw [show n + 1 + i = n + (i + 1) by omega]

/-- The callee's name of an object of the caller's. -/
def CalN (h : Heap) (N : List Nat) (m0 i c : Nat) : Prop := N[c]? = some i ∨ (h.length ≤ i ∧ c = m0 + (i - h.length))

/-- The caller's heap behind a call: N the caller's names of the objects handed on, h1 the callee's heap at its end, M the callee's names by the caller's. -/
structure Mix (h : Heap) (N F : List Nat) (m0 : Nat) (h1 : Heap) (M : List Nat) (h2 : Heap) : Prop where
  len : h2.length = h.length + (h1.length - m0)
  old : ∀ i o, i < h.length → i ∉ N → h2[i]? = some o → o = .dead ∨ ∃ o', h[i]? = some o' ∧ o = (if i ∈ F then o'.frz else o')
  own : ∀ i o c, CalN h N m0 i c → h2[i]? = some o → ObjR h1 M [] c o
  names : ∀ i c, M[i]? = some c → h1.length ≤ c ∨ CalN h N m0 i c

theorem ACalls.frame {P : Program} {f : FuncId} {args0 : List AV} {h0 : Heap} {R : AEnd → Heap → Prop} (c : ACalls P f args0 h0 R) {vs : List AV} {h : Heap} (N F : List Nat) (nd : N.Nodup) (ha : RsL h N F vs args0) (ho : ObjsR h N F N h0)
    {R' : AEnd → Heap → Prop} (out : ∀ e h1, h0.length ≤ h1.length → R e h1 → ∃ M e' h2, Mix h N F h0.length h1 M h2 ∧ (EndR h1 M [] e e' ∨ (h1 = [] ∧ e' = e)) ∧ R' e' h2) : ACalls P f vs h R' := by
  refine ⟨fun w0 σ w vals s hv => ?_⟩
  have hNl : h0.length = N.length := ho.len
  let τ := σ.shape N F h w
  have st : Sim w0 τ h0 w := sim_shape s ho nd
  have tloc : ∀ {j i : Nat}, N[j]? = some i → τ.loc j = σ.loc i := by intro j i hj; simp [τ, Sig.shape, hj]
  let p : Nat → Prop := fun b => b < w.heap.size ∧ (¬ ∃ j l cs o, h0[j]? = some (.cells cs o) ∧ Real cs o ∧ τ.loc j = some l ∧ l.b = b) ∧ (¬ ∃ j l c ts st, h0[j]? = some (.loop c ts st) ∧ τ.loc j = some l ∧ l.b = b) ∧ ¬ σ.mrk b
  have pG : ∀ k, w0.p k → p k := fun k hk => ⟨by have := (s.below.block k hk).1; have := s.below.size; omega, by
    rintro ⟨j, l, cs, o, q1, qr, q2, rfl⟩
    exact (st.live j cs o l q1 qr q2).base hk, by
    rintro ⟨j, l, c, ts, sta, q1, q2, rfl⟩
    exact (st.ex.loop j c ts sta l q1 q2).base hk, fun q => (s.ex.mrk k q).1 hk⟩
  let G : Guard := { w := w, p := p, x := fun b => p b ∧ (w0.x b ∨ ∃ i l cs o, i ∉ F ∧ i ∉ N ∧ h[i]? = some (.cells cs o) ∧ Real cs o ∧ σ.loc i = some l ∧ l.b = b), xp := fun b q => q.1, sh := fun w' hw => w0.sh w' fun k hk => (hw k (pG k hk)).trans (s.below.block k hk).2 }
  have st' : Sim G τ h0 w := by
    refine ⟨⟨rfl, rfl, rfl, Nat.le_refl _, fun k hk => ⟨hk.1, rfl⟩⟩, st.dom, st.dom', st.fro, ?_, st.apart, st.frz, ?_, ⟨?_, st.ex.lap, fun b hb => ⟨fun hp => hp.2.2.2 hb, (s.ex.mrk b hb).2⟩⟩, st.vac⟩
    · intro j cs o l hj hq hl
      have L := st.live j cs o l hj hq hl
      exact ⟨fun hp => hp.2.1 ⟨j, l, cs, o, hj, hq, hl, rfl⟩, L.nofro, L.n, L.opn, L.room, L.blk⟩
    · rintro b c hb ⟨hp, hx | ⟨i, l, cs, o, hF, hN, h1, hqr, h2, rfl⟩⟩
      · exact st.hide b c hb hx
      · simp only [τ, Sig.shape] at hb
        split at hb
        · rename_i hx
          obtain ⟨i', l', cs', o', q1, q2, qr, q3, q4⟩ := hx
          exact s.apart i' i cs' cs o' o l' l (fun e => hF (e ▸ q1)) q2 h1 qr hqr q3 h2 q4
        · have := (s.live i cs o l h1 hqr h2).nofro
          rw [hb] at this; cases this
    · intro j c ts sta l hj hl
      exact ⟨fun hp => hp.2.2.1 ⟨j, l, c, ts, sta, hj, hl, rfl⟩, (st.ex.loop j c ts sta l hj hl).blk⟩
  have hargs : VRs τ args0 vals := by
    refine ⟨ha.len.trans hv.len, ?_⟩
    intro j x y hx hy
    have hj : j < vs.length := by rw [← ha.len]; exact (List.getElem?_eq_some_iff.1 hx).1
    exact rs_VR s (ha.at_ j vs[j] x (List.getElem?_eq_getElem hj) hx) (hv.at_ j _ y (List.getElem?_eq_getElem hj) hy)
  refine (c.run G τ w vals st' hargs).mono ?_
  rintro en w' ⟨r, h1, σ1, hr, hR, s1, le1⟩
  have hlen1 : h0.length ≤ h1.length := by
    cases hq : h0.length with
    | zero => omega
    | succ n =>
      obtain ⟨l, hl⟩ := st.dom n (by omega)
      have := s1.dom' n l (le1.loc n l hl)
      omega
  obtain ⟨M, e', h2, mix, hend, hR'⟩ := out r h1 hlen1 hR
  let σ2 : Sig := { loc := fun i => if i < h.length then σ.loc i else σ1.loc (h0.length + (i - h.length)), fro := σ1.fro, mrk := σ1.mrk }
  -- the callee's names
  have cal : ∀ {i c : Nat} {l : Loc}, CalN h N h0.length i c → σ1.loc c = some l → σ2.loc i = some l := by
    intro i c l hc hl
    rcases hc with hc | ⟨hi, rfl⟩
    · have hcl : c < N.length := (List.getElem?_eq_some_iff.1 hc).1
      obtain ⟨l', hl'⟩ := st.dom c (by omega)
      have := le1.loc c l' hl'
      rw [hl] at this; cases this
      rw [tloc hc] at hl'
      have := s.dom' i l hl'
      simp only [σ2, if_pos this]; exact hl'
    · simp only [σ2]; rw [if_neg (by omega)]; exact hl
  have cal' : ∀ {i c : Nat} {l : Loc}, CalN h N h0.length i c → σ2.loc i = some l → σ1.loc c = some l := by
    intro i c l hc hl
    rcases hc with hc | ⟨hi, rfl⟩
    · have hcl : c < N.length := (List.getElem?_eq_some_iff.1 hc).1
      obtain ⟨l', hl'⟩ := st.dom c (by omega)
      have := le1.loc c l' hl'
      rw [this]
      rw [tloc hc] at hl'
      have hi := s.dom' i l' hl'
      simp only [σ2, if_pos hi] at hl
      rw [hl'] at hl; exact hl
    · simp only [σ2] at hl; rw [if_neg (by omega)] at hl; exact hl
  have leM : (σ1.shape M [] h1 w').Le σ2 := by
    refine ⟨?_, ?_, fun b hb => hb⟩
    · intro i l hl
      simp only [Sig.shape, Option.bind_eq_some_iff] at hl
      obtain ⟨c, hc, hl⟩ := hl
      rcases mix.names i c hc with hc | hc
      · have := s1.dom' c l hl; omega
      · exact cal hc hl
    · intro b c hb
      simp only [Sig.shape] at hb
      rw [if_neg] at hb
      · exact hb
      · rintro ⟨_, _, _, _, q, _⟩; simp at q
  have ren : ∀ {x y : AV} {v : Value}, Rs h1 M [] x y → VR σ1 x v → VR σ2 y v := fun q v => (rs_VR s1 q v).mono leM
  have le2 : σ.Le σ2 := by
    refine ⟨?_, fun b c hb => le1.fro b c (shape_fro s hb), fun b hb => le1.mrk b hb⟩
    intro i l hl
    simp only [σ2]; rw [if_pos (s.dom' i l hl)]; exact hl
  have oldp : ∀ {i : Nat} {cs : List AV} {o : Option Nat} {l : Loc}, i ∉ N → h[i]? = some (.cells cs o) → Real cs o → σ.loc i = some l → p l.b := by
    intro i cs o l hN hi hq hl
    obtain ⟨cc, ee, hcc, _, _⟩ := (s.live i cs o l hi hq hl).blk
    refine ⟨s.blt hi hq hl, ?_, ?_, ?_⟩
    · rintro ⟨j, l', cs', o', q1, qr, q2, q3⟩
      obtain ⟨i', hi', hob⟩ := ho.get q1
      obtain ⟨_, cs2, q4, qlen⟩ := Or.resolve_left hob (fun q => q.1 qr)
      rw [tloc hi'] at q2
      exact s.apart i' i cs2 cs o' o l' l (fun e => hN (e ▸ List.mem_of_getElem? hi')) q4 hi (qr.of_len qlen.len) hq q2 hl q3
    · rintro ⟨j, l', c, ts, sta, q1, q2, q3⟩
      obtain ⟨_, _, _, _, _, _, q5, _⟩ := (st.ex.loop j c ts sta l' q1 q2).blk
      rw [q3, hcc] at q5; cases q5
    · intro q
      have := (s.ex.mrk _ q).2
      rw [hcc] at this; cases this
  have oldpL : ∀ {i : Nat} {c : LC} {ts : List AV} {sta : LSt} {l : Loc}, i ∉ N → h[i]? = some (.loop c ts sta) → σ.loc i = some l → p l.b := by
    intro i c ts sta l hN hi hl
    obtain ⟨fn, tt, as, bd, d, _, hcc, _⟩ := (s.ex.loop i c ts sta l hi hl).blk
    refine ⟨(Array.getElem?_eq_some_iff.1 hcc).1, ?_, ?_, ?_⟩
    · rintro ⟨j, l', cs', o', q1, qr, q2, q3⟩
      obtain ⟨c', e', q5, _, _⟩ := (st.live j cs' o' l' q1 qr q2).blk
      rw [q3, hcc] at q5; cases q5
    · rintro ⟨j, l', c', ts', sta', q1, q2, q3⟩
      obtain ⟨i', hi', hob⟩ := ho.get q1
      obtain ⟨ts2, q4, _⟩ := hob
      rw [tloc hi'] at q2
      exact s.ex.lap i' i _ _ _ _ _ _ l' l (fun e => hN (e ▸ List.mem_of_getElem? hi')) q4 hi q2 hl q3
    · intro q
      have := (s.ex.mrk _ q).2
      rw [hcc] at this; cases this
  -- every object of the new heap
  have kind : ∀ {i : Nat} {o : AObj}, h2[i]? = some o → (i < h.length ∧ i ∉ N) ∨ ∃ c, CalN h N h0.length i c := by
    intro i o _
    by_cases hi : i < h.length
    · by_cases hN : i ∈ N
      · obtain ⟨j, hj, e⟩ := List.mem_iff_getElem.1 hN
        exact .inr ⟨j, .inl (by rw [List.getElem?_eq_getElem hj, e])⟩
      · exact .inl ⟨hi, hN⟩
    · exact .inr ⟨_, .inr ⟨by omega, rfl⟩⟩
  have oldc : ∀ {i : Nat} {cs : List AV} {op : Option Nat}, h2[i]? = some (.cells cs op) → i < h.length → i ∉ N → i ∉ F ∧ h[i]? = some (.cells cs op) := by
    intro i cs op hi hl hN
    rcases mix.old i _ hl hN hi with e | ⟨o', h1', e⟩
    · cases e
    · by_cases hF : i ∈ F
      · rw [if_pos hF] at e; cases o' <;> simp [AObj.frz] at e
      · rw [if_neg hF] at e; subst e; exact ⟨hF, h1'⟩
  have liveO : ∀ {i : Nat} {cs : List AV} {op : Option Nat} {l : Loc}, h2[i]? = some (.cells cs op) → Real cs op → σ2.loc i = some l → ((i < h.length ∧ i ∉ N ∧ i ∉ F ∧ h[i]? = some (.cells cs op) ∧ σ.loc i = some l) ∨
      ∃ c cs1, CalN h N h0.length i c ∧ h1[c]? = some (.cells cs1 op) ∧ RsL h1 M [] cs1 cs ∧ σ1.loc c = some l) := by
    intro i cs op l hi hq hl
    rcases kind hi with ⟨hlt, hN⟩ | ⟨c, hc⟩
    · obtain ⟨hF, h'⟩ := oldc hi hlt hN
      simp only [σ2, if_pos hlt] at hl
      exact .inl ⟨hlt, hN, hF, h', hl⟩
    · obtain ⟨_, cs1, q1, q2⟩ := Or.resolve_left (mix.own i _ c hc hi) (fun q => q.1 hq)
      exact .inr ⟨c, cs1, hc, q1, q2, cal' hc hl⟩
  have liveL : ∀ {i : Nat} {c : LC} {ts : List AV} {sta : LSt} {l : Loc}, h2[i]? = some (.loop c ts sta) → σ2.loc i = some l → ((i < h.length ∧ i ∉ N ∧ h[i]? = some (.loop c ts sta) ∧ σ.loc i = some l) ∨
      ∃ d ts1, CalN h N h0.length i d ∧ h1[d]? = some (.loop c ts1 sta) ∧ RsL h1 M [] ts1 ts ∧ σ1.loc d = some l) := by
    intro i c ts sta l hi hl
    rcases kind hi with ⟨hlt, hN⟩ | ⟨d, hd⟩
    · rcases mix.old i _ hlt hN hi with e | ⟨o', h1', e⟩
      · cases e
      · have e2 : o' = .loop c ts sta := by
          split at e
          · cases o' <;> simp [AObj.frz] at e ⊢; exact ⟨e.1.symm, e.2.1.symm, e.2.2.symm⟩
          · exact e.symm
        subst e2
        simp only [σ2, if_pos hlt] at hl
        exact .inl ⟨hlt, hN, h1', hl⟩
    · obtain ⟨ts1, q1, q2⟩ := mix.own i _ d hd hi
      exact .inr ⟨d, ts1, hd, q1, q2, cal' hd hl⟩
  refine ⟨e', h2, σ2, ?_, hR', ⟨?_, ?_, ?_, s1.fro, ?_, ?_, ?_, ?_, ⟨?_, ?_, fun b hb => ⟨fun hp => (s1.ex.mrk b hb).1 (pG b hp), (s1.ex.mrk b hb).2⟩⟩, ?vac⟩, le2⟩
  case vac =>
    intro i op l hj hn hl
    obtain ⟨o, ho', hoo⟩ : ∃ o, h2[i]? = some o ∧ (o = .cells [] op ∨ o = .fro [] op) := by
      rcases hj with hj | hj
      · exact ⟨_, hj, .inl rfl⟩
      · exact ⟨_, hj, .inr rfl⟩
    rcases kind ho' with ⟨hlt, hN⟩ | ⟨c, hc⟩
    · simp only [σ2, if_pos hlt] at hl
      rcases mix.old i _ hlt hN ho' with e | ⟨o', h1', e⟩
      · rcases hoo with q | q <;> rw [q] at e <;> cases e
      · refine s.vac i op l ?_ hn hl
        by_cases hF : i ∈ F
        · rw [if_pos hF] at e
          cases o' with
          | cells cs' op' =>
            rcases hoo with q | q <;> rw [q] at e <;> simp [AObj.frz] at e
            obtain ⟨rfl, rfl⟩ := e; exact .inl h1'
          | fro cs' op' =>
            rcases hoo with q | q <;> rw [q] at e <;> simp [AObj.frz] at e
            obtain ⟨rfl, rfl⟩ := e; exact .inr h1'
          | dead => rcases hoo with q | q <;> rw [q] at e <;> simp [AObj.frz] at e
          | loop _ _ _ => rcases hoo with q | q <;> rw [q] at e <;> simp [AObj.frz] at e
        · rw [if_neg hF] at e
          rw [← e] at h1'
          rcases hoo with q | q <;> rw [q] at h1'
          · exact .inl h1'
          · exact .inr h1'
    · have ow := mix.own i _ c hc ho'
      have hl1 := cal' hc hl
      rcases hoo with q | q <;> subst q
      · rcases ow with ⟨_, op', k1⟩ | ⟨_, cs1, k1, k2⟩
        · exact s1.vac0 (.inl k1) hl1
        · have : cs1 = [] := List.length_eq_zero_iff.1 k2.len.symm
          subst this
          exact s1.vac c op l (.inl k1) hn hl1
      · rcases ow with ⟨_, op', k1⟩ | ⟨_, cs1, k1, k2⟩
        · exact s1.vac0 k1 hl1
        · have : cs1 = [] := List.length_eq_zero_iff.1 k2.len.symm
          subst this
          exact s1.vac c op l k1 hn hl1
  rotate_left 8
  · intro i c ts sta l hi hl
    rcases liveL hi hl with ⟨hlt, hN, q1, q2⟩ | ⟨d, ts1, hd, q1, q2, q3⟩
    · have L := s.ex.loop i c ts sta l q1 q2
      obtain ⟨fn, tt, as, bd, dd, r1, r2, r3⟩ := L.blk
      exact ⟨L.base, fn, tt, as, bd, dd, r1, by rw [(s1.below.block _ (oldpL hN q1 q2)).2]; exact r2, r3.mono le2⟩
    · have L := s1.ex.loop d c ts1 sta l q1 q3
      obtain ⟨fn, tt, as, bd, dd, r1, r2, r3⟩ := L.blk
      refine ⟨fun hp => L.base (pG _ hp), fn, tt, as, bd, dd, r1, r2, ⟨q2.len.trans r3.len, ?_⟩⟩
      intro j x y hx hy
      have hj : j < ts1.length := by rw [← q2.len]; exact (List.getElem?_eq_some_iff.1 hx).1
      exact ren (q2.at_ j ts1[j] x (List.getElem?_eq_getElem hj) hx) (r3.at_ j _ y (List.getElem?_eq_getElem hj) hy)
  · intro i j c ts sta c' ts' sta' l m hne hi hj hl hm
    rcases liveL hi hl with ⟨a1, a2, a3, a4⟩ | ⟨d, ts1, hd, q1, q2, q3⟩
    · rcases liveL hj hm with ⟨b1, b2, b3, b4⟩ | ⟨d2, ts2, hd2, r1, r2, r3⟩
      · exact s.ex.lap i j _ _ _ _ _ _ l m hne a3 b3 a4 b4
      · intro e
        exact (s1.ex.loop d2 _ _ _ m r1 r3).base (e ▸ oldpL a2 a3 a4)
    · rcases liveL hj hm with ⟨b1, b2, b3, b4⟩ | ⟨d2, ts2, hd2, r1, r2, r3⟩
      · intro e
        exact (s1.ex.loop d _ _ _ l q1 q3).base (e ▸ oldpL b2 b3 b4)
      · refine s1.ex.lap d d2 _ _ _ _ _ _ l m (fun e => hne ?_) q1 r1 q3 r3
        subst e
        rcases hd with hc | ⟨hc1, hc2⟩
        · rcases hd2 with hd | ⟨hd1, hd2⟩
          · rw [hc] at hd; cases hd; rfl
          · have := (List.getElem?_eq_some_iff.1 hc).1; omega
        · rcases hd2 with hd | ⟨hd1, hd2⟩
          · have := (List.getElem?_eq_some_iff.1 hd).1; omega
          · omega
  · rcases hend with hend | ⟨rfl, rfl⟩
    · cases hr with
      | ret v u hu => cases e' with
        | ret y => exact .ret _ _ (ren hend hu)
        | pan y => exact hend.elim
      | pan v u hu => cases e' with
        | ret y => exact hend.elim
        | pan y => exact .pan _ _ (ren hend hu)
    · have res : ∀ {v : AV} {u : Value}, VR σ1 v u → VR σ2 v u := fun {v u} hu =>
        VR.restrict (σ := σ1) (τ := σ2) (n := 0) (fun i l hi => absurd hi (by omega)) (fun b c hb => hb) hu (hu.idLt fun i l hl => by simpa using s1.dom' i l hl)
      cases hr with
      | ret v u hu => exact .ret _ _ (res hu)
      | pan v u hu => exact .pan _ _ (res hu)
  · exact ⟨s1.below.os.trans s.below.os, s1.below.tape.trans s.below.tape, s1.below.output.trans s.below.output, Nat.le_trans s.below.size s1.below.size,
      fun k hk => ⟨(s.below.block k hk).1, (s1.below.block k (pG k hk)).2.trans (s.below.block k hk).2⟩⟩
  · intro i hi
    by_cases hlt : i < h.length
    · obtain ⟨l, hl⟩ := s.dom i hlt
      exact ⟨l, le2.loc i l hl⟩
    · rw [mix.len] at hi
      obtain ⟨l, hl⟩ := s1.dom (h0.length + (i - h.length)) (by omega)
      exact ⟨l, by simp only [σ2]; rw [if_neg hlt]; exact hl⟩
  · intro i l hl
    rw [mix.len]
    by_cases hlt : i < h.length
    · omega
    · simp only [σ2] at hl
      rw [if_neg hlt] at hl
      have := s1.dom' _ l hl
      omega
  · intro i cs op l hi hq hl
    rcases liveO hi hq hl with ⟨hlt, hN, hF, q1, q2⟩ | ⟨c, cs1, hc, q1, q2, q3⟩
    · have L := s.live i cs op l q1 hq q2
      obtain ⟨cc, e, hb, hs, hrel⟩ := L.blk
      have hp := oldp hN q1 hq q2
      refine ⟨L.base, ?_, L.n, L.opn, L.room, cc, e, ?_, hs, fun j x y a b => (hrel j x y a b).mono le2⟩
      · cases hf : σ1.fro l.b with
        | none => rfl
        | some c0 => exact absurd ⟨hp, .inr ⟨i, l, cs, op, hF, hN, q1, hq, q2, rfl⟩⟩ (s1.hide _ _ hf)
      · rw [(s1.below.block _ hp).2]; exact hb
    · have L := s1.live c cs1 op l q1 (hq.of_len q2.len) q3
      obtain ⟨cc, e, hb, hs, hrel⟩ := L.blk
      refine ⟨fun hp => L.base (pG _ hp), L.nofro, by rw [L.n, q2.len], L.opn, by rw [q2.len]; exact L.room, cc, e, hb, hs, ?_⟩
      intro j x y hx hy
      have hj : j < cs1.length := by rw [← q2.len]; exact (List.getElem?_eq_some_iff.1 hx).1
      exact ren (q2.at_ j cs1[j] x (List.getElem?_eq_getElem hj) hx) (hrel j _ y (List.getElem?_eq_getElem hj) hy)
  · intro i j cs ds o o' l m hne hi hj hqi hqj hl hm
    rcases liveO hi hqi hl with ⟨a1, a2, a3, a4, a5⟩ | ⟨c, cs1, hc, q1, q2, q3⟩
    · rcases liveO hj hqj hm with ⟨b1, b2, b3, b4, b5⟩ | ⟨d, ds1, hd, r1, r2, r3⟩
      · exact s.apart i j cs ds o o' l m hne a4 b4 hqi hqj a5 b5
      · intro e
        exact (s1.live d ds1 o' m r1 (hqj.of_len r2.len) r3).base (e ▸ oldp a2 a4 hqi a5)
    · rcases liveO hj hqj hm with ⟨b1, b2, b3, b4, b5⟩ | ⟨d, ds1, hd, r1, r2, r3⟩
      · intro e
        exact (s1.live c cs1 o l q1 (hqi.of_len q2.len) q3).base (e ▸ oldp b2 b4 hqj b5)
      · refine s1.apart c d cs1 ds1 o o' l m (fun e => hne ?_) q1 r1 (hqi.of_len q2.len) (hqj.of_len r2.len) q3 r3
        subst e
        rcases hc with hc | ⟨hc1, hc2⟩
        · rcases hd with hd | ⟨hd1, hd2⟩
          · rw [hc] at hd; cases hd; rfl
          · have := (List.getElem?_eq_some_iff.1 hc).1; omega
        · rcases hd with hd | ⟨hd1, hd2⟩
          · have := (List.getElem?_eq_some_iff.1 hd).1; omega
          · omega
  · intro i cs op l hi hq hl
    rcases kind hi with ⟨hlt, hN⟩ | ⟨c, hc⟩
    · simp only [σ2, if_pos hlt] at hl
      rcases mix.old i _ hlt hN hi with e | ⟨o', h1', e⟩
      · cases e
      · by_cases hF : i ∈ F
        · rw [if_pos hF] at e
          cases o' with
          | cells cs' op' =>
            simp only [AObj.frz] at e
            injection e with e1 e2
            subst e1; subst e2
            obtain ⟨e1, e2, _⟩ := s.read (.inl h1') hq hl
            obtain ⟨c, hc, hs, hrel⟩ := shape_obj (N := N) s hF (.inl h1') hq hl
            exact ⟨e1, e2, c, le1.fro _ _ hc, hs, fun j x y a b => (hrel j x y a b).mono le2⟩
          | fro cs' op' =>
            simp only [AObj.frz] at e
            injection e with e1 e2
            subst e1; subst e2
            exact (s.frz i _ _ l h1' hq hl).mono le2
          | dead => simp [AObj.frz] at e
          | loop c ts st => simp [AObj.frz] at e
        · rw [if_neg hF] at e; subst e
          exact (s.frz i _ _ l h1' hq hl).mono le2
    · obtain ⟨hF, cs1, q1, q2⟩ := Or.resolve_left (mix.own i _ c hc hi) (fun q => q.1 hq)
      have hl1 := cal' hc hl
      have q3 : h1[c]? = some (.fro cs1 op) := by
        rcases hF with hF | ⟨cs', hF⟩
        · simp at hF
        · rcases q1 with q1 | q1
          · rw [hF] at q1; cases q1
          · exact q1
      have L := s1.frz c cs1 op l q3 (hq.of_len q2.len) hl1
      obtain ⟨cc, hb, hs, hrel⟩ := L.blk
      refine ⟨by rw [L.n, q2.len], L.opn, cc, hb, by rw [q2.len]; exact hs, ?_⟩
      intro j x y hx hy
      have hj : j < cs1.length := by rw [← q2.len]; exact (List.getElem?_eq_some_iff.1 hx).1
      exact ren (q2.at_ j cs1[j] x (List.getElem?_eq_getElem hj) hx) (hrel j _ y (List.getElem?_eq_getElem hj) hy)
  · intro b c hb hx
    exact s1.hide b c hb ⟨pG b (w0.xp b hx), .inl hx⟩

/-! ### pure functions -/
/-- A function of what is handed in alone; what it makes is read only from now on. -/
structure Pure (P : Program) (f : FuncId) (args : List AV) (v : AV) : Prop where
  call : ACalls P f args [] fun e h' => e = .ret v ∧ h' = []
  cl : ∀ x ∈ args, IdLt 0 x

theorem RsL.closed {h : Heap} {N F : List Nat} {cs : List AV} (hc : ∀ x ∈ cs, IdLt 0 x) : RsL h N F cs cs := .same hc

theorem Pure.inF {P : Program} {f : FuncId} {args : List AV} {v : AV} (c : Pure P f args v) {vs : List AV} {h : Heap} (F : List Nat) (ha : RsL h [] F vs args) : ACalls P f vs h fun e h' => e = .ret v ∧ h' = frzH F 0 h := by
  refine c.call.frame (R' := fun e h' => e = .ret v ∧ h' = frzH F 0 h) [] F List.nodup_nil ha trivial ?_
  rintro e h1 _ ⟨rfl, rfl⟩
  refine ⟨[], _, frzH F 0 h, ⟨by simp [frzH_length], ?_, ?_, ?_⟩, .inr ⟨rfl, rfl⟩, rfl, rfl⟩
  · intro i o hi _ ho
    rw [frzH_get] at ho
    simp only [Nat.zero_add, Option.map_eq_some_iff] at ho
    obtain ⟨o', h1, rfl⟩ := ho
    refine .inr ⟨o', h1, ?_⟩
    simp
  · intro i o c hc ho
    rcases hc with hc | ⟨hc, _⟩
    · simp at hc
    · rw [List.getElem?_eq_none (by rw [frzH_length]; exact hc)] at ho; cases ho
  · intro i c q; simp at q

theorem frzH_nil (n : Nat) (h : Heap) : frzH [] n h = h := by
  induction h generalizing n with
  | nil => rfl
  | cons o os ih => simp [frzH, ih]

theorem Pure.use {P : Program} {f : FuncId} {args : List AV} {v : AV} (c : Pure P f args v) {h : Heap} {K E : Cont} (k : K v h) : ACalls P f args h (andEnd K E) :=
  (c.inF [] (.closed c.cl)).mono fun e h' ⟨h1, h2⟩ => by subst h1; rw [frzH_nil] at h2; subst h2; exact k

theorem Pure.useE {P : Program} {f : FuncId} {args : List AV} {v : AV} (c : Pure P f args v) {vs : List AV} {h : Heap} (e : vs = args) {K E : Cont} (k : K v h) : ACalls P f vs h (andEnd K E) := by subst e; exact c.use k

theorem Pure.useF {P : Program} {f : FuncId} {args : List AV} {v : AV} (c : Pure P f args v) {vs : List AV} {h : Heap} (F : List Nat) (ha : RsL h [] F vs args) {K E : Cont} (k : forceH (frzH F 0 h) fun h' => K v h') : ACalls P f vs h (andEnd K E) :=
  (c.inF F ha).mono fun e h' ⟨h1, h2⟩ => by subst h1; subst h2; rw [forceH_eq] at k; exact k

/-- A value that leads nowhere. -/
inductive Flat : AV → Prop where
  | bool (b : Bool) : Flat (.bool b)
  | int (k : IntKind) (m : Int) : Flat (.int k m)
  | str (s : ByteArray) : Flat (.str s)
  | lit (v : Value) : Flat (.lit v)
  | agg (cs : List AV) (h : ∀ x ∈ cs, Flat x) : Flat (.agg cs)
  | tup (cs : List AV) (h : ∀ x ∈ cs, Flat x) : Flat (.tup cs)
@[simp] theorem flat_bool {b : Bool} : Flat (.bool b) ↔ True := ⟨fun _ => trivial, fun _ => .bool b⟩
@[simp] theorem flat_int {k : IntKind} {m : Int} : Flat (.int k m) ↔ True := ⟨fun _ => trivial, fun _ => .int k m⟩
@[simp] theorem flat_str {s : ByteArray} : Flat (.str s) ↔ True := ⟨fun _ => trivial, fun _ => .str s⟩
@[simp] theorem flat_lit {v : Value} : Flat (.lit v) ↔ True := ⟨fun _ => trivial, fun _ => .lit v⟩
@[simp] theorem flat_agg {cs : List AV} : Flat (.agg cs) ↔ ∀ x ∈ cs, Flat x := ⟨fun h => by cases h; assumption, .agg cs⟩
@[simp] theorem flat_tup {cs : List AV} : Flat (.tup cs) ↔ ∀ x ∈ cs, Flat x := ⟨fun h => by cases h; assumption, .tup cs⟩

theorem Flat.VR {σ τ : Sig} {x : AV} (f : Flat x) {v : Value} (r : VR σ x v) : VR τ x v := by
  induction r with
  | bool b => exact .bool b
  | int k n => exact .int k n
  | str s => exact .str s
  | lit v h => exact .lit v h
  | agg cs ds hl _ ih => cases f with | agg _ h => exact .agg cs ds hl fun j x y a b => ih j x y a b (h x (List.mem_of_getElem? a))
  | tup cs ds hl _ ih => cases f with | tup _ h => exact .tup cs ds hl fun j x y a b => ih j x y a b (h x (List.mem_of_getElem? a))
  | _ => cases f

/-- A call that only looks at what is the caller's own. -/
theorem Pure.inB {P : Program} {f : FuncId} {args : List AV} {v : AV} (c : Pure P f args v) (hf : Flat v) {vs : List AV} {h : Heap} (F : List Nat) (ha : RsL h [] F vs args) : ACalls P f vs h fun e h' => e = .ret v ∧ h' = h := by
  refine ⟨fun w0 σ w vals s hv => ?_⟩
  let τ := σ.shape [] F h w
  have st : Sim w0 τ [] w := sim_shape (hh := []) s trivial List.nodup_nil
  let G : Guard := { w := w, p := fun b => b < w.heap.size, x := fun _ => False, xp := fun b q => q.elim, sh := fun w' hw => w0.sh w' fun k hk => (hw k (by have := (s.below.block k hk).1; have := s.below.size; omega)).trans (s.below.block k hk).2 }
  let τ0 : Sig := { τ with mrk := fun _ => False }
  have st' : Sim G τ0 [] w := ⟨⟨rfl, rfl, rfl, Nat.le_refl _, fun k hk => ⟨hk, rfl⟩⟩, st.dom, st.dom', st.fro, fun j cs o l hj => by simp at hj, st.apart, fun i cs o l hi => by simp at hi, fun _ _ _ q => q,
    ⟨fun i c ts sta l hi => by simp at hi, fun i j c ts sta c' ts' sta' l m _ hi => by simp at hi, fun b hb => hb.elim⟩, fun i op l hi => by rcases hi with hi | hi <;> simp at hi⟩
  have hargs : VRs τ0 args vals := by
    refine ⟨ha.len.trans hv.len, ?_⟩
    intro j x y hx hy
    have hj : j < vs.length := by rw [← ha.len]; exact (List.getElem?_eq_some_iff.1 hx).1
    exact (rs_VR s (ha.at_ j vs[j] x (List.getElem?_eq_getElem hj) hx) (hv.at_ j _ y (List.getElem?_eq_getElem hj) hy)).restrict (σ := τ) (τ := τ0) (n := 0) (fun i l hi => absurd hi (by omega)) (fun b c hb => hb) (c.cl x (List.mem_of_getElem? hx))
  refine (c.call.run G τ0 w vals st' hargs).mono ?_
  rintro en w' ⟨r, h1, σ1, hr, ⟨rfl, rfl⟩, s1, le1⟩
  cases hr with
  | ret _ u hu =>
    have same : ∀ {b : Nat}, b < w.heap.size → w'.heap[b]? = w.heap[b]? := fun hb => (s1.below.block _ hb).2
    have blt : ∀ {b : Nat} {x : Obj}, w.heap[b]? = some x → w'.heap[b]? = some x := fun {b x} hb => by rw [same (Array.getElem?_eq_some_iff.1 hb).1]; exact hb
    refine ⟨.ret v, h, σ, .ret _ _ (hf.VR hu), ⟨rfl, rfl⟩, ⟨?_, s.dom, s.dom', ?_, ?_, s.apart, s.frz, s.hide, s.ex.step (.refl σ) (fun b o ho _ => blt ho) (fun _ _ _ _ _ a b => ⟨a, b⟩) (fun _ a => a), s.vac⟩, .refl σ⟩
    · refine ⟨s1.below.os.trans s.below.os, s1.below.tape.trans s.below.tape, s1.below.output.trans s.below.output, Nat.le_trans s.below.size s1.below.size, fun k hk => ?_⟩
      have h1 := s.below.block k hk
      have h2 := s.below.size
      exact ⟨h1.1, (same (by omega)).trans h1.2⟩
    · intro b c hb
      obtain ⟨e, fr, hh⟩ := s.fro b c hb
      exact ⟨e, fr, blt hh⟩
    · intro i cs op l hi hq hl
      have L := s.live i cs op l hi hq hl
      obtain ⟨cc, e, hb, hs, hrel⟩ := L.blk
      exact ⟨L.base, L.nofro, L.n, L.opn, L.room, cc, e, blt hb, hs, hrel⟩

theorem Pure.useB {P : Program} {f : FuncId} {args : List AV} {v : AV} (c : Pure P f args v) (hf : Flat v) {vs : List AV} {h : Heap} (F : List Nat) (ha : RsL h [] F vs args) {K E : Cont} (k : K v h) : ACalls P f vs h (andEnd K E) :=
  (c.inB hf F ha).mono fun e h' ⟨h1, h2⟩ => by subst h1; subst h2; exact k

theorem ACalls.use {P : Program} {f : FuncId} {args : List AV} {h : Heap} {v : AV} {h2 : Heap} {K E : Cont} (c : ACalls P f args h fun e h' => e = .ret v ∧ h' = h2) (k : K v h2) : ACalls P f args h (andEnd K E) :=
  c.mono fun e h' ⟨h1, h2⟩ => by subst h1; subst h2; exact k

/-! ### the end of a function -/
/-- All objects of a heap. -/
def allF (h : Heap) : List Nat := List.range h.length

theorem back_pure {R : AEnd → Heap → Prop} {v v' : AV} {h : Heap} (F : List Nat) (hv : Rs h [] F v v') (hR : R (.ret v') []) : Back 0 R (.ret v) h :=
  .mk' ⟨[], F, .ret v', [], hv, trivial, List.nodup_nil, fun j hj => absurd hj (by omega), hR⟩

/-- The end of a function that is walked in its caller's place. -/
theorem fin_inl {m : Nat} {K E : Cont} {v : AV} {h : Heap} (k : K v h) : fin (Back m (andEnd K E) (.ret v) h) := fin_mk ⟨.inl k⟩

theorem pure_of_vc {P : Program} {f : FuncId} {n : Nat} {rs : List RV} {ac : ACode} (hc : chkFn P f n rs ac = true) {args : List AV} {v : AV} (cl : ∀ x ∈ args, IdLt 0 x)
    (v0 : forceL (args ++ List.replicate (n - args.length) .wild) fun ts => hid (vc P 0 ac (retQ rs (Back 0 fun e h' => e = .ret v ∧ h' = [])) ts [])) : Pure P f args v :=
  ⟨acalls_of_vc hc v0, cl⟩

/-! ### loops -/
/-- The slots of a list of numbers, unknown. -/
def wildAt : List Nat → List AV → List AV
  | [], ts => ts
  | d :: D, ts => wildAt D (tset ts d .wild)
/-- Slots laid anew. -/
def ovr : List (Nat × AV) → List AV → List AV
  | [], ts => ts
  | (d, v) :: r, ts => ovr r (tset ts d v)

def AExit.isN : AExit → Bool
  | .normal => true
  | _ => false

/-- What a round of a loop leads to. -/
def Next {α : Type} (m : Nat) (fr : α → List AV) (hp : α → Heap) (I : α → Prop) (Q' : Post) (d : α → Prop) : Prop :=
  ∀ a', I a' → d a' → ∀ ts' h', (h' = hp a' ∧ Wk ts' (fr a')) ∨ (∃ N F, N.Nodup ∧ (∀ j, j < m → N[j]? = some j) ∧ ObjsR h' N F N (hp a') ∧ RsL h' N F ts' (fr a')) → Q' .normal ts' h'

/-- A loop by an invariant over variables of any kind: a state's slots and heap, what holds, what goes down. -/
theorem vloop {α : Type} {m : Nat} {B : Post → List AV → Heap → Prop} {Q : Post} {ts : List AV} {h : Heap} (fr : α → List AV) (hp : α → Heap) (I : α → Prop) (μ : α → Nat) (a0 : α) (h0 : I a0)
    (start : (h = hp a0 ∧ Wk ts (fr a0)) ∨ (∃ g N F, N.Nodup ∧ (∀ j, j < m → N[j]? = some j) ∧ ObjsR (h ++ List.replicate g gho) N F N (hp a0) ∧ RsL (h ++ List.replicate g gho) N F ts (fr a0)) ∨ ∃ g, h ++ List.replicate g gho = hp a0 ∧ Wk ts (fr a0))
    (step : ∀ a, I a → ∀ Q' : Post, Next m fr hp I Q' (fun a' => μ a' < μ a) → (∀ e ts' h', e.isN = false → Q e ts' h' → Q' e ts' h') → B Q' (fr a) (hp a)) : VLoop m B Q ts h := by
  refine ⟨fun Z hZ => ?_⟩
  have key : ∀ n a, μ a = n → I a → Z (fr a) (hp a) := by
    intro n
    induction n using Nat.strongRecOn with
    | _ n ih =>
      intro a hn hI
      refine hZ _ _ _ (step a hI (loopQ m Z Q) ?_ ?_) (fun _ _ _ q => q)
      · intro a' k1 k2 ts' h' k
        have z := ih (μ a') (hn ▸ k2) a' rfl k1
        rcases k with ⟨rfl, k⟩ | ⟨N, F, k3, k4, k5, k6⟩
        · exact ⟨.inl ⟨_, k, z⟩⟩
        · exact ⟨.inr (.inl ⟨0, N, F, fr a', hp a', by simpa using k6, by simpa using k5, k3, k4, z⟩)⟩
      · intro e ts' h' hne hq
        cases e <;> first | (simp [AExit.isN] at hne; done) | exact hq
  have z := key _ a0 rfl h0
  rcases start with ⟨rfl, k⟩ | ⟨g, N, F, k3, k4, k5, k6⟩ | ⟨g, k1, k2⟩
  · exact ⟨.inl ⟨_, k, z⟩⟩
  · exact ⟨.inr (.inl ⟨g, N, F, fr a0, hp a0, k6, k5, k3, k4, z⟩)⟩
  · rw [← k1] at z
    exact ⟨.inr (.inr ⟨g, _, k2, z⟩)⟩

def wildK : List Nat → List AV → (List AV → Prop) → Prop
  | [], ts, K => K ts
  | d :: D, ts, K => forceL (tset ts d .wild) fun us => wildK D us K
def ovrK : List (Nat × AV) → List AV → (List AV → Prop) → Prop
  | [], ts, K => K ts
  | (d, v) :: r, ts, K => forceL (tset ts d v) fun us => ovrK r us K
/-- The slots of D unknown, some of them laid anew: reckoned one behind the other. -/
def frK (o : List (Nat × AV)) (D : List Nat) (ts : List AV) (K : List AV → Prop) : Prop := wildK D ts fun us => ovrK o us K

theorem wildK_eq (D : List Nat) (ts : List AV) (K : List AV → Prop) : wildK D ts K = K (wildAt D ts) := by
  induction D generalizing ts with
  | nil => rfl
  | cons d D ih => simp only [wildK, forceL_eq, ih, wildAt]
theorem ovrK_eq (o : List (Nat × AV)) (ts : List AV) (K : List AV → Prop) : ovrK o ts K = K (ovr o ts) := by
  induction o generalizing ts with
  | nil => rfl
  | cons x o ih => obtain ⟨d, v⟩ := x; simp only [ovrK, forceL_eq, ih, ovr]
theorem frK_eq (o : List (Nat × AV)) (D : List Nat) (ts : List AV) (K : List AV → Prop) : frK o D ts K = K (ovr o (wildAt D ts)) := by rw [frK, wildK_eq, ovrK_eq]

theorem wk_force {o : List (Nat × AV)} {D : List Nat} {ts ts' : List AV} (h : frK o D ts fun us => hid (Wk ts' us)) : Wk ts' (ovr o (wildAt D ts)) := by rw [frK_eq] at h; exact h.out

theorem rsl_force {o : List (Nat × AV)} {D : List Nat} {ts ts' : List AV} {g : Heap} {N F : List Nat} (h : frK o D ts fun us => hid (RsL g N F ts' us)) : RsL g N F ts' (ovr o (wildAt D ts)) := by rw [frK_eq] at h; exact h.out

/-- The same; the slots of D unknown, some of them laid anew. -/
theorem vloopW {α : Type} {m : Nat} {B : Post → List AV → Heap → Prop} {Q : Post} {ts : List AV} {h : Heap} (D : List Nat) (ov : α → List (Nat × AV)) (hp : α → Heap) (I : α → Prop) (μ : α → Nat) (a0 : α) (h0 : I a0)
    (hh : h = hp a0) (hw : Wk ts (ovr (ov a0) (wildAt D ts)))
    (step : ∀ a, I a → ∀ Q' : Post, Next m (fun a => ovr (ov a) (wildAt D ts)) hp I Q' (fun a' => μ a' < μ a) → (∀ e ts' h', e.isN = false → Q e ts' h' → Q' e ts' h') → frK (ov a) D ts fun us => B Q' us (hp a)) : VLoop m B Q ts h :=
  vloop (fun a => ovr (ov a) (wildAt D ts)) hp I μ a0 h0 (.inl ⟨hh, hw⟩) (fun a hI Q' hn hx => by have := step a hI Q' hn hx; rw [frK_eq] at this; exact this)

/-- An end of a block that is none of its own. -/
def blkO (id : Nat) : AExit → Bool
  | .normal => false
  | .exit i => i != id
  | _ => true
/-- What a block's way leads to. -/
def Joins {α : Type} (m id : Nat) (fr : α → List AV) (hp : α → Heap) (I : α → Prop) (Q' : Post) : Prop :=
  ∀ a', I a' → ∀ ts' h', ((h' = hp a' ∧ Wk ts' (fr a')) ∨ (∃ N F, N.Nodup ∧ (∀ j, j < m → N[j]? = some j) ∧ ObjsR h' N F N (hp a') ∧ RsL h' N F ts' (fr a'))) → Q' .normal ts' h' ∧ Q' (.exit id) ts' h'
/-- A block whose ways meet: a state's slots and heap, what holds where they meet. -/
theorem vblk {α : Type} {m : Nat} {B : Post → List AV → Heap → Prop} {id : Nat} {Q : Post} {ts : List AV} {h : Heap} (fr : α → List AV) (hp : α → Heap) (I : α → Prop)
    (step : ∀ Q' : Post, Joins m id fr hp I Q' → (∀ e ts' h', blkO id e = true → Q e ts' h' → Q' e ts' h') → B Q' ts h) (rest : ∀ a, I a → Q .normal (fr a) (hp a)) : VBlk m B id Q ts h := by
  refine ⟨fun Z hZ => ⟨blkZ m id Z Q, step _ ?_ ?_, fun _ _ _ q => q⟩⟩
  · intro a' hI ts' h' k
    have z := hZ _ _ (rest a' hI)
    have : Again m Z ts' h' := by
      rcases k with ⟨rfl, k⟩ | ⟨N, F, k3, k4, k5, k6⟩
      · exact ⟨.inl ⟨_, k, z⟩⟩
      · exact ⟨.inr (.inl ⟨0, N, F, fr a', hp a', by simpa using k6, by simpa using k5, k3, k4, z⟩)⟩
    refine ⟨this, ?_⟩
    show blkZ m id Z Q (.exit id) ts' h'
    simp only [blkZ, if_true]
    exact this
  · intro e ts' h' hb q
    cases e with
    | normal => simp [blkO] at hb
    | exit i =>
      simp only [blkO, bne_iff_ne, ne_eq] at hb
      simp only [blkZ]
      rw [if_neg hb]; exact q
    | goto l => exact q
    | ret => exact q
    | pan v => exact q
/-- The same; the slots of D unknown, some of them laid anew. -/
theorem vblkW {α : Type} {m : Nat} {B : Post → List AV → Heap → Prop} {id : Nat} {Q : Post} {ts : List AV} {h : Heap} (D : List Nat) (ov : α → List (Nat × AV)) (ts0 : List AV) (hp : α → Heap) (I : α → Prop)
    (step : ∀ Q' : Post, Joins m id (fun a => ovr (ov a) (wildAt D ts0)) hp I Q' → (∀ e ts' h', blkO id e = true → Q e ts' h' → Q' e ts' h') → B Q' ts h) (rest : ∀ a, I a → frK (ov a) D ts0 fun us => Q .normal us (hp a)) : VBlk m B id Q ts h :=
  vblk (fun a => ovr (ov a) (wildAt D ts0)) hp I step (fun a hI => by have := rest a hI; rw [frK_eq] at this; exact this)

/-- The same, with names of nothing (g) behind the heap. -/
theorem vloopG {α : Type} {m : Nat} {B : Post → List AV → Heap → Prop} {Q : Post} {ts : List AV} {h : Heap} (g : Nat) (D : List Nat) (ov : α → List (Nat × AV)) (hp : α → Heap) (I : α → Prop) (μ : α → Nat) (a0 : α) (h0 : I a0)
    (hh : h ++ List.replicate g gho = hp a0) (hw : Wk ts (ovr (ov a0) (wildAt D ts)))
    (step : ∀ a, I a → ∀ Q' : Post, Next m (fun a => ovr (ov a) (wildAt D ts)) hp I Q' (fun a' => μ a' < μ a) → (∀ e ts' h', e.isN = false → Q e ts' h' → Q' e ts' h') → frK (ov a) D ts fun us => B Q' us (hp a)) : VLoop m B Q ts h :=
  vloop (fun a => ovr (ov a) (wildAt D ts)) hp I μ a0 h0 (.inr (.inr ⟨g, hh, hw⟩)) (fun a hI Q' hn hx => by have := step a hI Q' hn hx; rw [frK_eq] at this; exact this)
/-- The same, with other names at its start. -/
theorem vloopN {α : Type} {m : Nat} {B : Post → List AV → Heap → Prop} {Q : Post} {ts : List AV} {h : Heap} (g : Nat) (N F : List Nat) (D : List Nat) (ov : α → List (Nat × AV)) (hp : α → Heap) (I : α → Prop) (μ : α → Nat) (a0 : α) (h0 : I a0)
    (nd : N.Nodup) (hm : ∀ j, j < m → N[j]? = some j) (ho : ObjsR (h ++ List.replicate g gho) N F N (hp a0)) (ts0 : List AV) (hr : RsL (h ++ List.replicate g gho) N F ts (ovr (ov a0) (wildAt D ts0)))
    (step : ∀ a, I a → ∀ Q' : Post, Next m (fun a => ovr (ov a) (wildAt D ts0)) hp I Q' (fun a' => μ a' < μ a) → (∀ e ts' h', e.isN = false → Q e ts' h' → Q' e ts' h') → frK (ov a) D ts0 fun us => B Q' us (hp a)) : VLoop m B Q ts h :=
  vloop (fun a => ovr (ov a) (wildAt D ts0)) hp I μ a0 h0 (.inr (.inl ⟨g, N, F, nd, hm, ho, hr⟩)) (fun a hI Q' hn hx => by have := step a hI Q' hn hx; rw [frK_eq] at this; exact this)

/-- The same, nothing to do if there are none. -/
def frzK (F : List Nat) (h : Heap) : Heap := match F with | [] => h | F => frzH F 0 h
theorem frzK_eq (F : List Nat) (h : Heap) : frzK F h = frzH F 0 h := by
  cases F with
  | nil => simp only [frzK, frzH_nil]
  | cons _ _ => rfl

/-! ### calls that are handed objects -/
def posOf (N : List Nat) (i : Nat) : Nat := N.findIdx (· == i)
/-- The callee's names by the caller's. -/
def mnames (n : Nat) (N : List Nat) (m1 : Nat) : List Nat := (List.range n).map (fun i => if posOf N i < N.length then posOf N i else m1) ++ (List.range (m1 - N.length)).map (· + N.length)
def setAll : Heap → List Nat → Heap → Heap
  | h, i :: N, o :: os => setAll (h.set i o) N os
  | h, _, _ => h

theorem setAll_length : ∀ (N : List Nat) (h os : Heap), (setAll h N os).length = h.length
  | [], h, os => by simp [setAll]
  | i :: N, h, [] => by simp [setAll]
  | i :: N, h, o :: os => by simp [setAll, setAll_length]
theorem setAll_ne : ∀ (N : List Nat) (h os : Heap) (i : Nat), i ∉ N → (setAll h N os)[i]? = h[i]?
  | [], h, os, i, _ => by simp [setAll]
  | j :: N, h, [], i, _ => by simp [setAll]
  | j :: N, h, o :: os, i, hi => by
    simp only [List.mem_cons, not_or] at hi
    simp only [setAll]
    rw [setAll_ne N _ os i hi.2, List.getElem?_set_ne (fun e => hi.1 e.symm)]
theorem setAll_at : ∀ (N : List Nat) (h os : Heap) (c i : Nat) (o : AObj), N.Nodup → N[c]? = some i → (setAll h N os)[i]? = some o → c < os.length → os[c]? = some o
  | [], h, os, c, i, o, _, hc, _, _ => by simp at hc
  | j :: N, h, [], c, i, o, _, _, _, hl => by simp at hl
  | j :: N, h, o' :: os, c, i, o, nd, hc, ho, hl => by
    rw [List.nodup_cons] at nd
    simp only [setAll] at ho
    cases c with
    | zero =>
      simp at hc; subst hc
      rw [setAll_ne N _ os j nd.1, List.getElem?_set] at ho
      simp at ho
      simp [ho.2]
    | succ c =>
      simp at hc hl
      simpa using setAll_at N _ os c i o nd.2 hc ho hl

theorem posOf_some {N : List Nat} {i : Nat} (h : posOf N i < N.length) : N[posOf N i]? = some i := by
  have := List.findIdx_getElem (p := (· == i)) (xs := N) (w := h)
  rw [List.getElem?_eq_getElem h]
  simp only [beq_iff_eq] at this
  exact congrArg some this

theorem mix_mk {h : Heap} {N F : List Nat} {h1 hs : Heap} (nd : N.Nodup) (hlt : ∀ i ∈ N, i < h.length) (hl : hs.length = h1.length) (hle : N.length ≤ h1.length) (ho : ∀ c o, hs[c]? = some o → ObjR h1 (mnames h.length N h1.length) [] c o) :
    Mix h N F N.length h1 (mnames h.length N h1.length) (setAll (frzH F 0 h) N hs ++ hs.drop N.length) := by
  refine ⟨?_, ?_, ?_, ?_⟩
  · simp [setAll_length, frzH_length]; omega
  · intro i o hi hN ho'
    rw [List.getElem?_append_left (by rw [setAll_length, frzH_length]; exact hi), setAll_ne _ _ _ _ hN, frzH_get] at ho'
    simp only [Nat.zero_add, Option.map_eq_some_iff] at ho'
    obtain ⟨o', q1, rfl⟩ := ho'
    exact .inr ⟨o', q1, by simp⟩
  · intro i o c hc ho'
    rcases hc with hc | ⟨hi, rfl⟩
    · have hi : i < h.length := hlt i (List.mem_of_getElem? hc)
      rw [List.getElem?_append_left (by rw [setAll_length, frzH_length]; exact hi)] at ho'
      exact ho c o (setAll_at N _ hs c i o nd hc ho' (by have := (List.getElem?_eq_some_iff.1 hc).1; omega))
    · rw [List.getElem?_append_right (by rw [setAll_length, frzH_length]; exact hi), setAll_length, frzH_length, List.getElem?_drop] at ho'
      exact ho _ o ho'
  · intro i c hc
    unfold mnames at hc
    rw [List.getElem?_append] at hc
    split at hc
    · rw [List.getElem?_map, Option.map_eq_some_iff] at hc
      obtain ⟨j, hj, rfl⟩ := hc
      have : j = i := by
        rw [List.getElem?_range (by rename_i q; simpa using q)] at hj
        simpa using hj.symm
      subst this
      split
      · rename_i q; exact .inr (.inl (posOf_some q))
      · exact .inl (Nat.le_refl _)
    · rename_i q
      simp only [List.length_map, List.length_range, Nat.not_lt] at q
      simp only [List.length_map, List.length_range] at hc
      rw [List.getElem?_map, Option.map_eq_some_iff] at hc
      obtain ⟨j, hj, rfl⟩ := hc
      have hjl := (List.getElem?_eq_some_iff.1 hj).1
      have : j = i - h.length := by
        rw [List.getElem?_range (by simpa using hjl)] at hj
        simpa using hj.symm
      exact .inr (.inr ⟨q, by omega⟩)

/-- A call that is handed objects: N their names, F the objects that are read only from now on; hs the objects behind the call, v its value. -/
theorem ACalls.useN {P : Program} {f : FuncId} {args0 : List AV} {h0 : Heap} {v0 : AV} {h1 : Heap} (c : ACalls P f args0 h0 fun e h' => e = .ret v0 ∧ h' = h1) {vs : List AV} {h : Heap} (N F : List Nat) (nd : N.Nodup) (ha : RsL h N F vs args0) (ho : ObjsR h N F N h0)
    (hs : Heap) (v : AV) (hv : Rs h1 (mnames h.length N h1.length) [] v0 v) (hos : ObjsR h1 (mnames h.length N h1.length) [] (List.range h1.length) hs) {K E : Cont} (k : forceH (setAll (frzK F h) N hs ++ hs.drop N.length) fun h' => K v h') : ACalls P f vs h (andEnd K E) := by
  rw [frzK_eq] at k
  refine c.frame N F nd ha ho ?_
  rintro e h1' hle ⟨rfl, rfl⟩
  have hlen := hos.len
  rw [List.length_range] at hlen
  have hN := ho.len
  have hlt : ∀ i ∈ N, i < h.length := by
    intro i hi
    obtain ⟨j, hj, e⟩ := List.mem_iff_getElem.1 hi
    obtain ⟨i', hi', ho'⟩ := ho.get (j := j) (o := h0[j]'(by omega)) (List.getElem?_eq_getElem _)
    rw [List.getElem?_eq_getElem hj, e] at hi'
    cases hi'
    exact ho'.lt
  have hos' : ∀ c o, hs[c]? = some o → ObjR h1' (mnames h.length N h1'.length) [] c o := by
    intro c o hc
    obtain ⟨i, hi, hr⟩ := hos.get hc
    have hcl := (List.getElem?_eq_some_iff.1 hi).1
    rw [List.getElem?_range (by simpa using hcl)] at hi
    cases hi; exact hr
  have hmix := mix_mk (F := F) nd hlt hlen (by omega) hos'
  rw [← hN] at hmix
  refine ⟨mnames h.length N h1'.length, .ret v, _, hmix, .inl hv, ?_⟩
  · rw [hN]; rw [forceH_eq] at k; exact k

end Go.Proofs.YtginchgkbgcimaaDoor.AL
