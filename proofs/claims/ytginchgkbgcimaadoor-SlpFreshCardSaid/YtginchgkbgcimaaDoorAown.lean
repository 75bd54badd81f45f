/- Calls that only look at what is the caller's own, and answer new memory. -/
import Derived.Test.YtginchgkbgcimaaDoorAwalk
namespace Go.Proofs.YtginchgkbgcimaaDoor.AL
open Go Go.RowKit

/-- A value that leads to own objects alone; their names by n higher. -/
inductive OwnR (n : Nat) : AV → AV → Prop where
  | bool (b : Bool) : OwnR n (.bool b) (.bool b)
  | int (k : IntKind) (m : Int) : OwnR n (.int k m) (.int k m)
  | str (s : ByteArray) : OwnR n (.str s) (.str s)
  | lit (v : Value) : OwnR n (.lit v) (.lit v)
  | agg (cs ds : List AV) (hl : ds.length = cs.length) (h : ∀ (j : Nat) x y, cs[j]? = some x → ds[j]? = some y → OwnR n x y) : OwnR n (.agg cs) (.agg ds)
  | tup (cs ds : List AV) (hl : ds.length = cs.length) (h : ∀ (j : Nat) x y, cs[j]? = some x → ds[j]? = some y → OwnR n x y) : OwnR n (.tup cs) (.tup ds)
  | ptr (i k : Nat) : OwnR n (.ptr i k) (.ptr (n + i) k)
  | slice (i k l c : Nat) : OwnR n (.slice i k l c) (.slice (n + i) k l c)

structure OwnL (n : Nat) (cs ds : List AV) : Prop where
  len : ds.length = cs.length
  at_ : ∀ (j : Nat) x y, cs[j]? = some x → ds[j]? = some y → OwnR n x y
theorem OwnL.nil {n : Nat} : OwnL n [] [] := ⟨rfl, by intro j x y q; simp at q⟩
theorem OwnL.cons {n : Nat} {x y : AV} {cs ds : List AV} (a : OwnR n x y) (r : OwnL n cs ds) : OwnL n (x :: cs) (y :: ds) := by
  refine ⟨by simp [r.len], ?_⟩
  intro j u v hu hv
  cases j with
  | zero => simp at hu hv; subst hu; subst hv; exact a
  | succ j => exact r.at_ j u v (by simpa using hu) (by simpa using hv)
theorem OwnR.tupL {n : Nat} {cs ds : List AV} (r : OwnL n cs ds) : OwnR n (.tup cs) (.tup ds) := .tup cs ds r.len r.at_
theorem OwnR.aggL {n : Nat} {cs ds : List AV} (r : OwnL n cs ds) : OwnR n (.agg cs) (.agg ds) := .agg cs ds r.len r.at_
theorem OwnL.map {α : Type} {n : Nat} {f : α → AV} {l : List α} (h : ∀ a, OwnR n (f a) (f a)) : OwnL n (l.map f) (l.map f) := by
  refine ⟨rfl, ?_⟩
  intro j x y hx hy
  rw [hx] at hy; cases hy
  rw [List.getElem?_map, Option.map_eq_some_iff] at hx
  obtain ⟨a, _, rfl⟩ := hx
  exact h a

def OwnO (n : Nat) : AObj → AObj → Prop
  | .cells cs op, .cells ds op' => op' = op ∧ OwnL n cs ds
  | .dead, .dead => True
  | _, _ => False
def OwnH (n : Nat) : Heap → Heap → Prop
  | [], [] => True
  | o :: os, q :: qs => OwnO n o q ∧ OwnH n os qs
  | _, _ => False
theorem OwnH.len {n : Nat} : ∀ {h g : Heap}, OwnH n h g → g.length = h.length
  | [], [], _ => rfl
  | _ :: _, _ :: _, r => by simp [OwnH.len r.2]
  | [], _ :: _, r => r.elim
  | _ :: _, [], r => r.elim
theorem OwnH.get {n : Nat} : ∀ {h g : Heap}, OwnH n h g → ∀ {i : Nat} {q : AObj}, g[i]? = some q → ∃ o, h[i]? = some o ∧ OwnO n o q
  | [], [], _, i, q, e => by simp at e
  | o :: os, p :: ps, r, i, q, e => by
    cases i with
    | zero => simp at e; subst e; exact ⟨o, rfl, r.1⟩
    | succ i => simpa using OwnH.get r.2 (by simpa using e)
  | [], _ :: _, r, _, _, _ => r.elim
  | _ :: _, [], r, _, _, _ => r.elim

theorem OwnR.VR {n : Nat} {σ τ : Sig} (hs : ∀ i l, σ.loc i = some l → τ.loc (n + i) = some l) {x y : AV} (r : OwnR n x y) : ∀ {v : Value}, VR σ x v → VR τ y v := by
  induction r with
  | bool b => intro v q; cases q; exact .bool b
  | int k m => intro v q; cases q; exact .int k m
  | str s => intro v q; cases q; exact .str s
  | lit v => intro u q; cases q with | lit _ h => exact .lit v h
  | agg cs ds hl _ ih =>
    intro v q
    cases q with
    | agg _ es h1 h2 =>
      refine .agg ds es (by omega) fun j x y a b => ?_
      have hj : j < cs.length := by rw [← hl]; exact (List.getElem?_eq_some_iff.1 a).1
      exact ih j cs[j] x (List.getElem?_eq_getElem hj) a (h2 j _ y (List.getElem?_eq_getElem hj) b)
  | tup cs ds hl _ ih =>
    intro v q
    cases q with
    | tup _ es h1 h2 =>
      refine .tup ds es (by omega) fun j x y a b => ?_
      have hj : j < cs.length := by rw [← hl]; exact (List.getElem?_eq_some_iff.1 a).1
      exact ih j cs[j] x (List.getElem?_eq_getElem hj) a (h2 j _ y (List.getElem?_eq_getElem hj) b)
  | ptr i k => intro v q; cases q with | ptr _ _ l hl => exact .ptr (n + i) k l (hs i l hl)
  | slice i k l c =>
    intro v q
    cases q with
    | slice _ _ _ _ cap' l' hl h1 h2 => exact .slice (n + i) k _ _ cap' l' (hs i l' hl) h1 h2
    | sliceE _ a l' hl => exact .sliceE (n + i) a l' (hs i l' hl)

theorem ACalls.inB {P : Program} {f : FuncId} {args : List AV} {v : AV} {g : Heap} (c : ACalls P f args [] fun e h' => e = .ret v ∧ h' = g) {vs : List AV} {h : Heap} {v2 : AV} {g2 : Heap} (hv2 : OwnR h.length v v2) (hg : OwnH h.length g g2) (F : List Nat) (ha : RsL h [] F vs args) :
    ACalls P f vs h fun e h' => e = .ret v2 ∧ h' = h ++ g2 := by
  refine ⟨fun w0 σ w vals s hv => ?_⟩
  let τ := σ.shape [] F h w
  have st : Sim w0 τ [] w := sim_shape (hh := []) s trivial List.nodup_nil
  let G : Guard := { w := w, p := fun b => b < w.heap.size, x := fun _ => False, xp := fun b q => q.elim, sh := fun w' hw => w0.sh w' fun k hk => (hw k (by have := (s.below.block k hk).1; have := s.below.size; omega)).trans (s.below.block k hk).2 }
  let τ0 : Sig := { τ with mrk := fun _ => False }
  have st' : Sim G τ0 [] w := ⟨⟨rfl, rfl, rfl, Nat.le_refl _, fun k hk => ⟨hk, rfl⟩⟩, st.dom, st.dom', st.fro, fun j cs o l hj => by simp at hj, st.apart, fun i cs o l hi => by simp at hi, fun _ _ _ q => q,
    ⟨fun i c ts sta l hi => by simp at hi, fun i j c ts sta c' ts' sta' l m _ hi => by simp at hi, fun b hb => hb.elim⟩, fun i op l hi => by rcases hi with hi | hi <;> simp at hi⟩
  have hargs : VRs τ0 args vals := by
    refine ⟨ha.len.trans hv.len, ?_⟩
    intro j x y hx hy
    have hj : j < vs.length := by rw [← ha.len]; exact (List.getElem?_eq_some_iff.1 hx).1
    exact (rs_VR s (ha.at_ j vs[j] x (List.getElem?_eq_getElem hj) hx) (hv.at_ j _ y (List.getElem?_eq_getElem hj) hy)).mrkW st.dom' _
  refine (c.run G τ0 w vals st' hargs).mono ?_
  rintro en w' ⟨r, h1, σ1, hr, ⟨rfl, rfl⟩, s1, le1⟩
  cases hr with
  | ret _ u hu =>
    have same : ∀ {b : Nat}, b < w.heap.size → w'.heap[b]? = w.heap[b]? := fun hb => (s1.below.block _ hb).2
    have blt : ∀ {b : Nat} {x : Obj}, w.heap[b]? = some x → w'.heap[b]? = some x := fun {b x} hb => by rw [same (Array.getElem?_eq_some_iff.1 hb).1]; exact hb
    let ρ : Sig := { loc := fun i => if i < h.length then σ.loc i else σ1.loc (i - h.length), fro := σ.fro, mrk := σ.mrk }
    have hold : ∀ i, i < h.length → ρ.loc i = σ.loc i := fun i hi => if_pos hi
    have hnew : ∀ i l, σ1.loc i = some l → ρ.loc (h.length + i) = some l := fun i l hl => by
      show (if h.length + i < h.length then _ else _) = _
      rw [if_neg (by omega), Nat.add_sub_cancel_left]; exact hl
    have hlt : ∀ i l, σ.loc i = some l → i < h.length := s.dom'
    have le : σ.Le ρ := ⟨fun i l hl => by rw [hold i (hlt i l hl)]; exact hl, fun b c hb => hb, fun b hb => hb⟩
    have fresh : ∀ {i : Nat} {cs : List AV} {op : Option Nat} {l : Loc}, h1[i]? = some (.cells cs op) → Real cs op → σ1.loc i = some l → w.heap.size ≤ l.b := fun {i cs op l} hi hq hl => by
      have := (s1.live i cs op l hi hq hl).base
      have q : ¬ l.b < w.heap.size := this
      omega
    have froOld : ∀ {b : Nat} {c : Array Value}, σ.fro b = some c → b < w.heap.size := fun {b c} hb => by
      obtain ⟨e, fr, hh⟩ := s.fro b c hb
      exact (Array.getElem?_eq_some_iff.1 hh).1
    have liveOld : ∀ {i : Nat} {cs : List AV} {op : Option Nat} {l : Loc}, h[i]? = some (.cells cs op) → Real cs op → σ.loc i = some l → l.b < w.heap.size := fun {i cs op l} hi hq hl => by
      obtain ⟨c, e, hb, _⟩ := (s.live i cs op l hi hq hl).blk
      exact (Array.getElem?_eq_some_iff.1 hb).1
    have hlen := hg.len
    -- an object of the new heap
    have obj : ∀ {i : Nat} {o : AObj}, (h ++ g2)[i]? = some o → (i < h.length ∧ h[i]? = some o) ∨ (h.length ≤ i ∧ ∃ o1, h1[i - h.length]? = some o1 ∧ OwnO h.length o1 o) := by
      intro i o ho
      rw [List.getElem?_append] at ho
      split at ho
      · exact .inl ⟨by assumption, ho⟩
      · exact .inr ⟨by omega, hg.get ho⟩
    have locN : ∀ {i : Nat} {l : Loc}, h.length ≤ i → ρ.loc i = some l → σ1.loc (i - h.length) = some l := fun {i l} hi hl => by
      have : ρ.loc i = σ1.loc (i - h.length) := if_neg (by omega)
      rw [← this]; exact hl
    refine ⟨.ret v2, h ++ g2, ρ, .ret _ _ (hv2.VR hnew hu), ⟨rfl, rfl⟩, ⟨?_, ?_, ?_, ?_, ?_, ?_, ?_, s.hide, s.ex.step le (fun b o ho _ => blt ho) (fun i c ts sta l hi hl => by
      rcases obj hi with ⟨q, ho⟩ | ⟨q, o1, ho1, hoo⟩
      · exact ⟨ho, by rw [hold i q] at hl; exact hl⟩
      · cases o1 <;> exact hoo.elim) (fun _ a => a), ?vac⟩, ?_⟩
    case vac =>
      intro i op l hj hn hl
      obtain ⟨o, ho, hoo⟩ : ∃ o, (h ++ g2)[i]? = some o ∧ (o = .cells [] op ∨ o = .fro [] op) := by
        rcases hj with hj | hj
        · exact ⟨_, hj, .inl rfl⟩
        · exact ⟨_, hj, .inr rfl⟩
      rcases obj ho with ⟨q, ho'⟩ | ⟨q, o1, ho1, hw⟩
      · rw [hold i q] at hl
        rcases hoo with e | e <;> rw [e] at ho'
        · exact s.vac i op l (.inl ho') hn hl
        · exact s.vac i op l (.inr ho') hn hl
      · have hl1 := locN q hl
        rcases hoo with e | e <;> subst e
        · cases o1 with
          | cells cs1 op1 =>
            obtain ⟨rfl, hcs⟩ := hw
            have : cs1 = [] := List.length_eq_zero_iff.1 hcs.len.symm
            subst this
            exact s1.vac _ _ l (.inl ho1) hn hl1
          | fro _ _ => exact hw.elim
          | dead => exact hw.elim
          | loop _ _ _ => exact hw.elim
        · cases o1 <;> exact hw.elim
    · refine ⟨s1.below.os.trans s.below.os, s1.below.tape.trans s.below.tape, s1.below.output.trans s.below.output, Nat.le_trans s.below.size s1.below.size, fun k hk => ?_⟩
      have h1 := s.below.block k hk
      have h2 := s.below.size
      exact ⟨h1.1, (same (by omega)).trans h1.2⟩
    · intro i hi
      by_cases q : i < h.length
      · obtain ⟨l, hl⟩ := s.dom i q
        exact ⟨l, by rw [hold i q]; exact hl⟩
      · rw [List.length_append, hlen] at hi
        obtain ⟨l, hl⟩ := s1.dom (i - h.length) (by omega)
        refine ⟨l, ?_⟩
        have := hnew _ _ hl
        rwa [show h.length + (i - h.length) = i by omega] at this
    · intro i l hl
      by_cases q : i < h.length
      · rw [List.length_append]; omega
      · have := s1.dom' _ _ (locN (by omega) hl)
        rw [List.length_append, hlen]; omega
    · intro b c hb
      obtain ⟨e, fr, hh⟩ := s.fro b c hb
      exact ⟨e, fr, blt hh⟩
    · intro i cs op l hi hqi hl
      rcases obj hi with ⟨q, ho⟩ | ⟨q, o1, ho1, hoo⟩
      · rw [hold i q] at hl
        have L := s.live i cs op l ho hqi hl
        obtain ⟨cc, e, hb, hs, hrel⟩ := L.blk
        exact ⟨L.base, L.nofro, L.n, L.opn, L.room, cc, e, blt hb, hs, fun j x y a b => (hrel j x y a b).mono le⟩
      · have hl1 := locN q hl
        cases o1 with
        | cells cs1 op1 =>
          obtain ⟨rfl, hcs⟩ := hoo
          have hq1 := hqi.of_len hcs.len
          have L := s1.live _ cs1 _ l ho1 hq1 hl1
          have hf := fresh ho1 hq1 hl1
          obtain ⟨cc, e, hb, hs, hrel⟩ := L.blk
          refine ⟨?_, ?_, by rw [L.n, hcs.len], L.opn, by rw [hcs.len]; exact L.room, cc, e, hb, hs, ?_⟩
          · intro hp
            have h1 := (s.below.block _ hp).1
            have h2 := s.below.size
            omega
          · show σ.fro l.b = none
            cases hfr : σ.fro l.b with
            | none => rfl
            | some c => have := froOld hfr; omega
          · intro j x y a b
            have hj : j < cs1.length := by rw [← hcs.len]; exact (List.getElem?_eq_some_iff.1 a).1
            exact (hcs.at_ j cs1[j] x (List.getElem?_eq_getElem hj) a).VR hnew (hrel j _ y (List.getElem?_eq_getElem hj) b)
        | fro _ _ => exact hoo.elim
        | dead => exact hoo.elim
        | loop _ _ _ => exact hoo.elim
    · intro i j cs ds o o' l m hne hi hj hqi hqj hl hm
      rcases obj hi with ⟨q, ho⟩ | ⟨q, o1, ho1, hoo⟩ <;> rcases obj hj with ⟨q', ho'⟩ | ⟨q', o2, ho2, hoo'⟩
      · rw [hold i q] at hl
        rw [hold j q'] at hm
        exact s.apart i j cs ds o o' l m hne ho ho' hqi hqj hl hm
      · rw [hold i q] at hl
        have h1 := liveOld ho hqi hl
        cases o2 with
        | cells cs2 op2 =>
          obtain ⟨rfl, hcs⟩ := hoo'
          have := fresh ho2 (hqj.of_len hcs.len) (locN q' hm); omega
        | fro _ _ => exact hoo'.elim
        | dead => exact hoo'.elim
        | loop _ _ _ => exact hoo'.elim
      · rw [hold j q'] at hm
        have h1 := liveOld ho' hqj hm
        cases o1 with
        | cells cs1 op1 =>
          obtain ⟨rfl, hcs⟩ := hoo
          have := fresh ho1 (hqi.of_len hcs.len) (locN q hl); omega
        | fro _ _ => exact hoo.elim
        | dead => exact hoo.elim
        | loop _ _ _ => exact hoo.elim
      · cases o1 with
        | cells cs1 op1 =>
          cases o2 with
          | cells cs2 op2 =>
            obtain ⟨rfl, hcs⟩ := hoo
            obtain ⟨rfl, hcs'⟩ := hoo'
            exact s1.apart _ _ cs1 cs2 _ _ l m (by omega) ho1 ho2 (hqi.of_len hcs.len) (hqj.of_len hcs'.len) (locN q hl) (locN q' hm)
          | fro _ _ => exact hoo'.elim
          | dead => exact hoo'.elim
          | loop _ _ _ => exact hoo'.elim
        | fro _ _ => exact hoo.elim
        | dead => exact hoo.elim
        | loop _ _ _ => exact hoo.elim
    · intro i cs op l hi hqi hl
      rcases obj hi with ⟨q, ho⟩ | ⟨q, o1, ho1, hoo⟩
      · rw [hold i q] at hl
        exact (s.frz i cs op l ho hqi hl).mono le
      · cases o1 <;> exact hoo.elim
    · exact le

theorem ACalls.useB {P : Program} {f : FuncId} {args : List AV} {v : AV} {g : Heap} (c : ACalls P f args [] fun e h' => e = .ret v ∧ h' = g) {vs : List AV} {h : Heap} (v2 : AV) (g2 : Heap) (F : List Nat) (ha : RsL h [] F vs args) (hv2 : OwnR h.length v v2) (hg : OwnH h.length g g2) {K E : Cont} (k : forceH (h ++ g2) fun h' => K v2 h') : ACalls P f vs h (andEnd K E) :=
  (c.inB hv2 hg F ha).mono fun e h' ⟨h1, h2⟩ => by subst h1; subst h2; rw [forceH_eq] at k; exact k

end Go.Proofs.YtginchgkbgcimaaDoor.AL
