/- Ranges over functions: what becomes of the states. -/
import Derived.Test.YtginchgkbgcimaaDoorAdraw3
namespace Go.Proofs.YtginchgkbgcimaaDoor.AL
open Go Go.RowKit

theorem VR.mrkW {σ : Sig} {n : Nat} (hd : ∀ i l, σ.loc i = some l → i < n) (M : Nat → Prop) {x : AV} {v : Value} (r : VR σ x v) : VR { σ with mrk := M } x v :=
  VR.restrict (σ := σ) (τ := { σ with mrk := M }) (n := n) (fun _ _ _ q => q) (fun _ _ q => q) r (r.idLt hd)
theorem VRs.mrkW {σ : Sig} {n : Nat} (hd : ∀ i l, σ.loc i = some l → i < n) (M : Nat → Prop) {xs : List AV} {vs : List Value} (r : VRs σ xs vs) : VRs { σ with mrk := M } xs vs :=
  ⟨r.len, fun j x y a b => (r.at_ j x y a b).mrkW hd M⟩

/-- Other marks. -/
theorem Sim.mrkW {w0 : Guard} {w : World} {σ : Sig} {h : Heap} (s : Sim w0 σ h w) (M : Nat → Prop) (hm : ∀ b, M b → ¬ w0.p b ∧ w.heap[b]? = some (.deferred (some []))) : Sim w0 { σ with mrk := M } h w := by
  have vr : ∀ {x : AV} {v : Value}, VR σ x v → VR { σ with mrk := M } x v := fun r => r.mrkW s.dom' M
  refine ⟨s.below, s.dom, s.dom', s.fro, ?_, s.apart, ?_, s.hide, ⟨?_, s.ex.lap, hm⟩, s.vac⟩
  · intro i cs o l hi hq hl
    have L := s.live i cs o l hi hq hl
    obtain ⟨c, e, hb, hs, hr⟩ := L.blk
    exact ⟨L.base, L.nofro, L.n, L.opn, L.room, c, e, hb, hs, fun j x y a b => vr (hr j x y a b)⟩
  · intro i cs o l hi hq hl
    have L := s.frz i cs o l hi hq hl
    obtain ⟨c, hb, hs, hr⟩ := L.blk
    exact ⟨L.n, L.opn, c, hb, hs, fun j x y a b => vr (hr j x y a b)⟩
  · intro i c ts st l hi hl
    have L := s.ex.loop i c ts st l hi hl
    obtain ⟨fn, t, as, bd, d, q1, q2, q3⟩ := L.blk
    exact ⟨L.base, fn, t, as, bd, d, q1, q2, q3.mrkW s.dom' M⟩

theorem Kept.putObj {G : Guard} {w : World} (h : Kept G w) {b : Nat} (hp : ¬ G.p b) (o : Obj) : Kept G (w.putObj b o) :=
  ⟨h.os, h.tape, h.output, by simpa using h.size, fun k hk => ⟨(h.block k hk).1, by rw [World.putObj_heap_other (fun e : k = b => hp (e ▸ hk))]; exact (h.block k hk).2⟩⟩

/-- A block that is neither memory nor a known loop nor a mark. -/
theorem Sim.putFree {w0 : Guard} {w : World} {σ : Sig} {h : Heap} (s : Sim w0 σ h w) {b : Nat} {x : Option (List Deferred)} (hp : ¬ w0.p b) (hb : w.heap[b]? = some (.deferred x)) (hm : ¬ σ.mrk b) (o : Obj) : Sim w0 σ h (w.putObj b o) := by
  have keep : ∀ {k : Nat} {y : Obj}, w.heap[k]? = some y → (∀ z, y ≠ .deferred z) → (w.putObj b o).heap[k]? = some y := fun {k y} hk hy => by
    rw [World.putObj_heap_other (fun e => by subst e; rw [hb] at hk; cases hk; exact hy _ rfl)]; exact hk
  refine ⟨s.below.putObj hp o, s.dom, s.dom', ?_, ?_, s.apart, s.frz, s.hide, ⟨?_, s.ex.lap, ?_⟩, s.vac⟩
  · intro k c hk
    obtain ⟨e, fr, hh⟩ := s.fro k c hk
    exact ⟨e, fr, keep hh (by intro z q; cases q)⟩
  · intro i cs op l hi hq hl
    have L := s.live i cs op l hi hq hl
    obtain ⟨c, e, hc, hs, hr⟩ := L.blk
    exact ⟨L.base, L.nofro, L.n, L.opn, L.room, c, e, keep hc (by intro z q; cases q), hs, hr⟩
  · intro i c ts st l hi hl
    have L := s.ex.loop i c ts st l hi hl
    obtain ⟨fn, t, as, bd, d, q1, q2, q3⟩ := L.blk
    exact ⟨L.base, fn, t, as, bd, d, q1, keep q2 (by intro z q; cases q), q3⟩
  · intro k hk
    obtain ⟨h1, h2⟩ := s.ex.mrk k hk
    exact ⟨h1, by rw [World.putObj_heap_other (fun e : k = b => hm (e ▸ hk))]; exact h2⟩

/-- A mark is taken. -/
theorem Sim.unmark {w0 : Guard} {w : World} {σ : Sig} {h : Heap} (s : Sim w0 σ h w) {b : Nat} (hb : σ.mrk b) : Sim w0 { σ with mrk := fun c => σ.mrk c ∧ c ≠ b } h (w.putObj b (.deferred none)) := by
  obtain ⟨h1, h2⟩ := s.ex.mrk b hb
  exact (s.mrkW (fun c => σ.mrk c ∧ c ≠ b) (fun c hc => s.ex.mrk c hc.1)).putFree h1 h2 (fun q => q.2 rfl) _

/-- A loop's record turns. -/
theorem Sim.putLoop {w0 : Guard} {w : World} {σ : Sig} {h : Heap} (s : Sim w0 σ h w) {i : Nat} {c : LC} {ts : List AV} {st : LSt} {l : Loc} (hi : h[i]? = some (.loop c ts st)) (hl : σ.loc i = some l) (r' : Loop) (o' : AObj)
    (ho : o' = .dead ∨ ∃ st', o' = .loop c ts st' ∧ ∀ w' : World, w'.heap[l.b]? = some (.loop r') → LoopAt w0 σ w' c ts st' l) : Sim w0 σ (h.set i o') (w.putObj l.b (.loop r')) := by
  have L0 := s.ex.loop i c ts st l hi hl
  obtain ⟨fn0, t0, as0, bd0, d0, _, hb0, _⟩ := L0.blk
  have hil : i < h.length := (List.getElem?_eq_some_iff.1 hi).1
  have get : ∀ {j : Nat} {o : AObj}, (h.set i o')[j]? = some o → (j = i ∧ o = o') ∨ (j ≠ i ∧ h[j]? = some o) := fun {j o} hj => by
    rw [List.getElem?_set] at hj
    split at hj
    · rename_i e; subst e; simp at hj; exact .inl ⟨rfl, hj.symm⟩
    · rename_i e; exact .inr ⟨fun q => e q.symm, hj⟩
  have keep : ∀ {k : Nat} {y : Obj}, w.heap[k]? = some y → (∀ z, y ≠ .loop z) → (w.putObj l.b (.loop r')).heap[k]? = some y := fun {k y} hk hy => by
    rw [World.putObj_heap_other (fun e => by subst e; rw [hb0] at hk; cases hk; exact hy _ rfl)]; exact hk
  have nc : ∀ {j : Nat} {cs : List AV} {op : Option Nat}, (h.set i o')[j]? = some (.cells cs op) → h[j]? = some (.cells cs op) := fun {j cs op} hj => by
    rcases get hj with ⟨_, e⟩ | ⟨_, e⟩
    · rcases ho with q | ⟨st', q, _⟩ <;> (rw [q] at e; cases e)
    · exact e
  refine ⟨s.below.putObj L0.base _, by simpa using s.dom, by simpa using s.dom', ?_, ?_, ?_, ?_, s.hide, ⟨?_, ?_, ?_⟩, ?vac⟩
  case vac =>
    intro j op m hj hn hm
    refine s.vac j op m ?_ hn hm
    rcases hj with hj | hj
    · exact .inl (nc hj)
    · rcases get hj with ⟨_, e⟩ | ⟨_, e⟩
      · rcases ho with q | ⟨st', q, _⟩ <;> (rw [q] at e; cases e)
      · exact .inr e
  · intro k cc hk
    obtain ⟨e, fr, hh⟩ := s.fro k cc hk
    exact ⟨e, fr, keep hh (by intro z q; cases q)⟩
  · intro j cs op m hj hq hm
    have L := s.live j cs op m (nc hj) hq hm
    obtain ⟨cc, e, hc, hs, hr⟩ := L.blk
    exact ⟨L.base, L.nofro, L.n, L.opn, L.room, cc, e, keep hc (by intro z q; cases q), hs, hr⟩
  · intro a b cs ds o1 o2 m n hab ha hb hqa hqb hm hn
    exact s.apart a b cs ds o1 o2 m n hab (nc ha) (nc hb) hqa hqb hm hn
  · intro j cs op m hj hq hm
    rcases get hj with ⟨_, e⟩ | ⟨_, e⟩
    · rcases ho with q | ⟨st', q, _⟩ <;> (rw [q] at e; cases e)
    · exact s.frz j cs op m e hq hm
  · intro j c' ts' st' m hj hm
    rcases get hj with ⟨rfl, e⟩ | ⟨hne, e⟩
    · rw [hl] at hm; cases hm
      rcases ho with q | ⟨st2, q, k⟩
      · rw [q] at e; cases e
      · rw [q] at e
        cases e
        exact k _ (World.putObj_heap_same (Array.getElem?_eq_some_iff.1 hb0).1)
    · have L := s.ex.loop j c' ts' st' m e hm
      obtain ⟨fn, t, as, bd, d, q1, q2, q3⟩ := L.blk
      have hne' : m.b ≠ l.b := s.ex.lap j i _ _ _ _ _ _ m l hne e hi hm hl
      exact ⟨L.base, fn, t, as, bd, d, q1, by rw [World.putObj_heap_other hne']; exact q2, q3⟩
  · intro a b c1 t1 s1 c2 t2 s2 m n hab ha hb hm hn
    have key : ∀ {j : Nat} {c' : LC} {ts' : List AV} {st' : LSt}, (h.set i o')[j]? = some (.loop c' ts' st') → ∃ c2 ts2 st2, h[j]? = some (.loop c2 ts2 st2) := fun {j c' ts' st'} hj => by
      rcases get hj with ⟨rfl, _⟩ | ⟨_, e⟩
      · exact ⟨_, _, _, hi⟩
      · exact ⟨_, _, _, e⟩
    obtain ⟨_, _, _, ha'⟩ := key ha
    obtain ⟨_, _, _, hb'⟩ := key hb
    exact s.ex.lap a b _ _ _ _ _ _ m n hab ha' hb' hm hn
  · intro k hk
    obtain ⟨h1, h2⟩ := s.ex.mrk k hk
    exact ⟨h1, keep h2 (by intro z q; cases q)⟩

/-- A range over a function begins. -/
theorem Sim.enterLoop {w0 : Guard} {w : World} {σ : Sig} {h : Heap} (s : Sim w0 σ h w) {c : LC} {ts : List AV} {fn : FuncId} {t : Array Value} {as bd : Code} (hc : c.cp fn as bd) (hv : VRs σ ts t.toList) :
    let l : Loc := ⟨w.heap.size + 1, 0, 0, 0, none⟩
    let σ' : Sig := { σ.ext h.length l with mrk := fun b => σ.mrk b ∨ b = w.heap.size }
    Sim w0 σ' (h ++ [.loop c ts .ready]) ((w.alloc (.deferred (some []))).alloc (.loop { state := .ready, pending := none, fn := fn, tmps := t, params := c.ps.toArray, assign := as, body := bd, defers := w.heap.size })) ∧ σ.Le σ' := by
  intro l σ'
  have s1 := (s.grow (.deferred (some []))).grow (.loop { state := .ready, pending := none, fn := fn, tmps := t, params := c.ps.toArray, assign := as, body := bd, defers := w.heap.size })
  generalize hw2 : (w.alloc (.deferred (some []))).alloc (.loop { state := .ready, pending := none, fn := fn, tmps := t, params := c.ps.toArray, assign := as, body := bd, defers := w.heap.size }) = w2 at s1
  have hd : w2.heap[w.heap.size]? = some (.deferred (some [])) := by
    rw [← hw2, Below.heap_alloc _ _ _ (by simp)]; exact World.alloc_heap_new w _
  have hL : w2.heap[w.heap.size + 1]? = some (.loop { state := .ready, pending := none, fn := fn, tmps := t, params := c.ps.toArray, assign := as, body := bd, defers := w.heap.size }) := by
    rw [← hw2]
    have := World.alloc_heap_new (w.alloc (.deferred (some []))) (.loop { state := .ready, pending := none, fn := fn, tmps := t, params := c.ps.toArray, assign := as, body := bd, defers := w.heap.size })
    simpa using this
  have np : ∀ k, w.heap.size ≤ k → ¬ w0.p k := fun k hk hp => by have := (s.below.block k hp).1; have := s.below.size; omega
  have hle : σ.Le σ' := ⟨(s.le_ext l).loc, fun _ _ x => x, fun _ x => .inl x⟩
  have old : ∀ {j m}, j < h.length → σ'.loc j = some m → σ.loc j = some m := fun {j m} hj hm => by simpa [σ', Sig.ext, Nat.ne_of_lt hj] using hm
  have get : ∀ {j : Nat} {o : AObj}, (h ++ [AObj.loop c ts .ready])[j]? = some o → (j = h.length ∧ o = .loop c ts .ready) ∨ (j < h.length ∧ h[j]? = some o) := fun {j o} hj => by
    rw [List.getElem?_append] at hj
    split at hj
    · rename_i e; exact .inr ⟨e, hj⟩
    · rename_i e
      cases hq : j - h.length with
      | zero => rw [hq] at hj; simp at hj; exact .inl ⟨by omega, hj.symm⟩
      | succ q => rw [hq] at hj; simp at hj
  have new : ∀ {m}, σ'.loc h.length = some m → m = l := fun {m} hm => by simp [σ', Sig.ext] at hm; exact hm.symm
  have lblt : ∀ {j c' ts' st' m}, h[j]? = some (.loop c' ts' st') → σ.loc j = some m → m.b < w.heap.size := fun {j c' ts' st' m} hj hm => by
    obtain ⟨_, _, _, _, _, _, hb, _⟩ := (s.ex.loop j c' ts' st' m hj hm).blk
    exact (Array.getElem?_eq_some_iff.1 hb).1
  refine ⟨⟨s1.below, ?_, ?_, s1.fro, ?_, ?_, ?_, s1.hide, ⟨?_, ?_, ?_⟩, ?vac⟩, hle⟩
  case vac =>
    intro j op m hj hn hm
    rcases hj with hj | hj
    · rcases get hj with ⟨_, e⟩ | ⟨hlt, hj'⟩
      · cases e
      · exact s.vac j op m (.inl hj') hn (old hlt hm)
    · rcases get hj with ⟨_, e⟩ | ⟨hlt, hj'⟩
      · cases e
      · exact s.vac j op m (.inr hj') hn (old hlt hm)
  · intro i hi
    by_cases e : i = h.length
    · exact ⟨l, by simp [σ', Sig.ext, e]⟩
    · obtain ⟨m, hm⟩ := s.dom i (by simp at hi; omega)
      exact ⟨m, hle.loc _ _ hm⟩
  · intro i m hm
    by_cases e : i = h.length
    · simp [e]
    · have : σ.loc i = some m := by simpa [σ', Sig.ext, e] using hm
      have := s.dom' _ _ this
      simp; omega
  · intro j cs o m hj hq hm
    rcases get hj with ⟨_, e⟩ | ⟨hlt, hj'⟩
    · cases e
    · have M := s1.live j cs o m hj' hq (old hlt hm)
      obtain ⟨cc, e, hb, hs, hr⟩ := M.blk
      exact ⟨M.base, M.nofro, M.n, M.opn, M.room, cc, e, hb, hs, fun q y z a b => (hr q y z a b).mono hle⟩
  · intro a b cs ds o o' m n hab ha hb hqa hqb hm hn
    rcases get ha with ⟨_, e⟩ | ⟨h1, h2⟩
    · cases e
    · rcases get hb with ⟨_, e⟩ | ⟨h3, h4⟩
      · cases e
      · exact s.apart a b cs ds o o' m n hab h2 h4 hqa hqb (old h1 hm) (old h3 hn)
  · intro j cs o m hj hq hm
    rcases get hj with ⟨_, e⟩ | ⟨hlt, hj'⟩
    · cases e
    · exact (s.frz j cs o m hj' hq (old hlt hm)).mono hle
  · intro j c' ts' st' m hj hm
    rcases get hj with ⟨rfl, e⟩ | ⟨hlt, hj'⟩
    · cases e
      rw [new hm]
      exact ⟨np _ (by simp [l]), fn, t, as, bd, _, hc, hL, hv.mono hle⟩
    · have L := s1.ex.loop j c' ts' st' m hj' (old hlt hm)
      obtain ⟨fn', t', as', bd', d', q1, q2, q3⟩ := L.blk
      exact ⟨L.base, fn', t', as', bd', d', q1, q2, q3.mono hle⟩
  · intro a b c1 t1 st1 c2 t2 st2 m n hab ha hb hm hn
    rcases get ha with ⟨rfl, e⟩ | ⟨h1, h2⟩
    · rcases get hb with ⟨rfl, e'⟩ | ⟨h3, h4⟩
      · exact absurd rfl hab
      · rw [new hm]; have := lblt h4 (old h3 hn); simp [l]; omega
    · rcases get hb with ⟨rfl, e'⟩ | ⟨h3, h4⟩
      · rw [new hn]; have := lblt h2 (old h1 hm); simp [l]; omega
      · exact s.ex.lap a b _ _ _ _ _ _ m n hab h2 h4 (old h1 hm) (old h3 hn)
  · intro b hb
    rcases hb with hb | rfl
    · exact s1.ex.mrk b hb
    · exact ⟨np _ (Nat.le_refl _), hd⟩

end Go.Proofs.YtginchgkbgcimaaDoor.AL
