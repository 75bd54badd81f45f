/- A region whose order is open: the theorem. -/
import Derived.Test.YtginchgkbgcimaaDoorAdraw
namespace Go.Proofs.YtginchgkbgcimaaDoor.AL
open Go Go.RowKit

theorem FR_iff {σ : Sig} {ts : List AV} {a : Act} : FR σ ts a ↔ ts.length = a.tmps.size ∧ ∀ n, VR σ (tget ts n) (a.tmps.getD n undef) := by
  constructor
  · intro f
    exact ⟨by have := f.len; simpa using this, fun n => tget_VR f n⟩
  · rintro ⟨h1, h2⟩
    refine ⟨by simpa using h1, ?_⟩
    intro j x y hx hy
    have := h2 j
    rw [tget_eq, hx] at this
    rw [Array.getElem?_toList] at hy
    simpa [Array.getD_eq_getD_getElem?, hy] using this

theorem aput_length (ts : List AV) (d : Option Nat) (v : AV) : (aput ts d v).length = ts.length := by cases d <;> simp [aput, tset_eq]

theorem masked_length (ops : List AOper) : ∀ (l : List Nat) (ts : List AV), (masked ops ts l).length = ts.length
  | [], ts => rfl
  | i :: r, ts => by
    simp only [masked]
    split
    · rw [masked_length ops r, aput_length]
    · exact masked_length ops r ts

theorem masked_wild (ops : List AOper) (n : Nat) : ∀ (l : List Nat) (ts : List AV), (tget ts n = .wild ∨ ∃ i ∈ l, ∃ o, ops[i]? = some o ∧ o.d = some n) → tget (masked ops ts l) n = .wild
  | [], ts, h => by
    rcases h with h | ⟨i, hi, _⟩
    · exact h
    · simp at hi
  | i :: r, ts, h => by
    simp only [masked]
    split
    · rename_i o ho
      refine masked_wild ops n r _ ?_
      by_cases e : o.d = some n
      · left
        rw [e]
        by_cases hn : n < ts.length
        · simp [aput, tget_eq, tset_eq, hn]
        · simp [aput, tget_eq, tset_eq, hn]
      · rw [tget_aput _ _ _ _ e]
        rcases h with h | ⟨j, hj, o', ho', hd⟩
        · exact .inl h
        · rcases List.mem_cons.1 hj with rfl | hj
          · rw [ho] at ho'; cases ho'; exact absurd hd e
          · exact .inr ⟨j, hj, o', ho', hd⟩
    · rename_i ho
      refine masked_wild ops n r ts ?_
      rcases h with h | ⟨j, hj, o', ho', hd⟩
      · exact .inl h
      · rcases List.mem_cons.1 hj with rfl | hj
        · rw [ho] at ho'; cases ho'
        · exact .inr ⟨j, hj, o', ho', hd⟩

/-- The slots, but for those that operations in waiting will write. -/
def FRx (σ : Sig) (ops : List AOper) (ts : List AV) (a : Act) (pend : List Nat) : Prop :=
  ts.length = a.tmps.size ∧ ∀ n, (∃ p ∈ pend, ∃ o, ops[p]? = some o ∧ o.d = some n) ∨ VR σ (tget ts n) (a.tmps.getD n undef)

theorem FRx.fr {σ : Sig} {ops : List AOper} {ts : List AV} {a : Act} {pend : List Nat} (f : FRx σ ops ts a pend) : FR σ (masked ops ts pend) a := by
  refine FR_iff.2 ⟨by rw [masked_length]; exact f.1, fun n => ?_⟩
  rcases f.2 n with ⟨p, hp, o, ho, hd⟩ | h
  · rw [masked_wild ops n pend ts (.inr ⟨p, hp, o, ho, hd⟩)]; exact .wild _
  · by_cases e : ∃ p ∈ pend, ∃ o, ops[p]? = some o ∧ o.d = some n
    · rw [masked_wild ops n pend ts (.inr e)]; exact .wild _
    · rw [masked_get ops n pend ts (fun i hi o ho hd => e ⟨i, hi, o, ho, hd⟩)]; exact h

theorem chkOpers_at {P : Program} {os : Array Oper} : ∀ {xs : List AOper} {ys : List Oper} {i : Nat} {x : AOper}, chkOpers P os xs ys = true → xs[i]? = some x → ∃ o, ys[i]? = some o ∧ chkOper P os x o = true
  | [], _, _, _, _, h => by simp at h
  | x :: xs, ys, i, z, hc, h => by
    cases ys with
    | nil => simp [chkOpers] at hc
    | cons y ys =>
      simp only [chkOpers, Bool.and_eq_true] at hc
      cases i with
      | zero => simp at h; subst h; exact ⟨y, rfl, hc.1⟩
      | succ i =>
        obtain ⟨o, ho, hk⟩ := chkOpers_at (xs := xs) (ys := ys) (i := i) hc.2 (by simpa using h)
        exact ⟨o, by simpa using ho, hk⟩

theorem chkOpers_len {P : Program} {os : Array Oper} : ∀ {xs : List AOper} {ys : List Oper}, chkOpers P os xs ys = true → xs.length = ys.length
  | [], [], _ => rfl
  | [], _ :: _, h => by simp [chkOpers] at h
  | _ :: _, [], h => by simp [chkOpers] at h
  | x :: xs, y :: ys, h => by simp only [chkOpers, Bool.and_eq_true] at h; simp [chkOpers_len h.2]

/-- What the checks say, in one place. -/
structure DrawOk (P : Program) (os : Array Oper) (dir : List (Nat × Nat)) (ops : List AOper) : Prop where
  hc : chkOpers P os ops os.toList = true
  dirs : ∀ i p, dir.contains (i, p) = true → (rset p os.toList []).getD i false = true
  dst : ∀ (i j : Nat) (a b : AOper) (d : Nat), ops[i]? = some a → ops[j]? = some b → b.d = some d → (d ∈ readsOf a → (i ≠ j ∧ direct os i j = true) ∨ (isPure b.op = false ∧ direct os j i = true)) ∧ (i ≠ j → a.d ≠ some d)
  pd : ∀ (j : Nat) (b : AOper), ops[j]? = some b → isPure b.op = true → ∃ d, b.d = some d
  lt : ∀ (i : Nat) (o : Oper), os[i]? = some o → ∀ e ∈ o.after.toList, Region.binds .any e = true → e.on < i

theorem drawOk_of {P : Program} {os : Array Oper} {dir : List (Nat × Nat)} {ops : List AOper} {ord : DT} (hc : chkOpers P os ops os.toList = true) (h : chkDraw os dir ops ord = true) : DrawOk P os dir ops ∧ chkDT os ops false [] ord = true := by
  simp only [chkDraw, Bool.and_eq_true, List.all_eq_true, List.mem_range] at h
  obtain ⟨⟨⟨h0, h3⟩, h5⟩, h6⟩ := h
  have hl := chkOpers_len hc
  simp only [chkDst, List.all_eq_true, List.mem_range] at h5
  refine ⟨⟨hc, fun i p hp => h0 (i, p) (List.contains_iff_mem.1 hp), ?_, ?_, ?_⟩, h3⟩
  · intro i j a b d ha hb hd
    have := h5 i (List.getElem?_eq_some_iff.1 ha).1 j (List.getElem?_eq_some_iff.1 hb).1
    simp only [ha, hb, hd, Bool.and_eq_true, Bool.or_eq_true, Bool.not_eq_true', bne_iff_ne, ne_eq, beq_iff_eq] at this
    obtain ⟨q1, q2⟩ := this
    refine ⟨fun hm => ?_, fun hne => ?_⟩
    · rcases q1 with (q1 | q1) | q1
      · have : (readsOf a).contains d = true := List.contains_iff_mem.2 hm
        rw [this] at q1; cases q1
      · exact .inl q1
      · exact .inr q1
    · rcases q2 with q2 | q2
      · exact absurd q2 hne
      · exact q2
  · intro j b hb hp
    have := h5 j (List.getElem?_eq_some_iff.1 hb).1 j (List.getElem?_eq_some_iff.1 hb).1
    simp only [hb] at this
    cases hd : b.d with
    | some d => exact ⟨d, rfl⟩
    | none => rw [hd] at this; simp [hp] at this
  · intro i o ho e he hb
    have hi : i < ops.length := by
      rw [hl]
      have := (Array.getElem?_eq_some_iff.1 ho).1
      simpa using this
    have := h6 i hi
    simp only [ho, Array.all_eq_true', Bool.or_eq_true, Bool.not_eq_true', decide_eq_true_eq] at this
    rcases this e (by simpa using he) with q | q
    · rw [hb] at q; cases q
    · exact q

theorem wanted_none {o : Oper} {y : Nat → Option Bool} (h : o.guard = none) : Region.wanted o y = true := by simp [Region.wanted, h]

/-- Runs of an operation's guard, over a frame of which its reads are known. -/
theorem wanted_at {σ : Sig} {us : List AV} {a : Act} (f : FR σ us a) {P : Program} {os : Array Oper} {x : AOper} {o : Oper} (hc : chkOper P os x o = true) :
    ((∀ t b, x.g = some (t, b) → tget us t = .bool b) → Region.wanted o (yielded os a.tmps) = true) ∧ ((∃ t b, x.g = some (t, b) ∧ Off b (tget us t)) → Region.wanted o (yielded os a.tmps) = false) := by
  simp only [chkOper, Bool.and_eq_true] at hc
  obtain ⟨⟨hg, _⟩, _⟩ := hc
  cases hx : x.g with
  | none =>
    rw [hx] at hg
    have hgn : o.guard = none := by
      cases ho : o.guard with
      | none => rfl
      | some p => rw [ho] at hg; simp [chkGuard] at hg
    exact ⟨fun _ => wanted_none hgn, by rintro ⟨t, b, e, _⟩; cases e⟩
  | some tb =>
    obtain ⟨t, b⟩ := tb
    rw [hx] at hg
    refine ⟨fun h => ?_, ?_⟩
    · rw [wanted_of f hg (h t b rfl)]; simp
    · rintro ⟨t', b', e, h⟩
      cases e
      exact wanted_off f hg h

/-- An operation that waits: what it comes to. -/
def Waits (P : Program) (ops : List AOper) (ts : List AV) (h : Heap) (p : Nat) : Prop :=
  ∃ o, ops[p]? = some o ∧ isPure o.op = true ∧
    (((∀ t b, o.g = some (t, b) → tget ts t = .bool b) ∧ ∃ v, PureVal P ts h o.op v ∧ ∀ d, o.d = some d → d < ts.length → tget ts d = v) ∨
     ((∃ t b, o.g = some (t, b) ∧ Off b (tget ts t)) ∧ ∀ d, o.d = some d → d < ts.length → tget ts d = .tup []))

structure DInv (dfs : DM) (P : Program) (os : Array Oper) (dir : List (Nat × Nat)) (ops : List AOper) (K : List AV → Heap → Prop) (w0 : Guard) (listed : Array Bool) (done : List Nat) (rest : DT) (ts : List AV) (h : Heap) (σ : Sig) (a : Act) (w : World) : Prop where
  cl : ∀ p ∈ done, ∃ o, os[p]? = some o ∧ ∀ e ∈ o.after.toList, Region.binds .any e = true → e.on ∈ done
  chk : chkDT os ops false done rest = true
  size : listed.size = ops.length
  closed : ∀ i o, Ran listed i → os[i]? = some o → ∀ e ∈ o.after.toList, Region.binds .any e = true → Ran listed e.on
  ran : ∀ i, Ran listed i → i ∈ done
  waits : ∀ p ∈ done, ¬ Ran listed p → Waits P ops ts h p
  sim : Sim w0 σ h w
  fr : ∀ pend : List Nat, (∀ p ∈ done, ¬ Ran listed p → p ∈ pend) → FRx σ ops ts a pend
  nd : DOk dfs σ a.defers
  go : vcDraw P dir ops K rest done ts h

theorem DInv.clCons {os : Array Oper} {done : List Nat} (cl : ∀ p ∈ done, ∃ o, os[p]? = some o ∧ ∀ e ∈ o.after.toList, Region.binds .any e = true → e.on ∈ done) {i : Nat} (hs : stepOk os done i = true) :
    ∀ p ∈ i :: done, ∃ o, os[p]? = some o ∧ ∀ e ∈ o.after.toList, Region.binds .any e = true → e.on ∈ i :: done := by
  intro p hp
  rcases List.mem_cons.1 hp with rfl | hp
  · obtain ⟨⟨o, ho, he⟩, _⟩ := stepOk_spec hs
    exact ⟨o, ho, fun e h1 h2 => List.mem_cons_of_mem _ (he e h1 h2)⟩
  · obtain ⟨o, ho, he⟩ := cl p hp
    exact ⟨o, ho, fun e h1 h2 => List.mem_cons_of_mem _ (he e h1 h2)⟩

theorem tget_aput_same {ts : List AV} {d : Nat} {v : AV} (h : d < ts.length) : tget (aput ts (some d) v) d = v := by
  simp [aput, tget_eq, tset_eq, h]

/-- An operation's reads are not the slots that others write later. -/
theorem reads_put {P : Program} {os : Array Oper} {dir : List (Nat × Nat)} {ops : List AOper} (D : DrawOk P os dir ops) {done : List Nat} {i p : Nat} {o q : AOper} (cl : ∀ p ∈ done, ∃ o, os[p]? = some o ∧ ∀ e ∈ o.after.toList, Region.binds .any e = true → e.on ∈ done) (hni : i ∉ done) (ho : ops[i]? = some o) (hp : p ∈ done ∨ p = i) (hq : ops[p]? = some q) (hx : isPure o.op = false → direct os i p = true → False) (n : Nat) (hn : n ∈ readsOf q) : o.d ≠ some n := by
  intro hd
  rcases (D.dst p i q o n hq ho hd).1 hn with ⟨hne, hdir⟩ | ⟨e1, e2⟩
  rotate_left
  · exact hx e1 e2
  rcases hp with hp | rfl
  · obtain ⟨oo, hoo, he⟩ := cl p hp
    simp only [direct, hoo, Array.any_eq_true'] at hdir
    obtain ⟨e, he1, he2⟩ := hdir
    simp only [Bool.and_eq_true, beq_iff_eq] at he2
    have := he e (by simpa using he1) he2.1
    rw [he2.2] at this
    exact hni this
  · exact hne rfl

theorem ev_put_of_reads {o : AOper} {q : AOper} {ts : List AV} {v : AV} (h : ∀ n ∈ readsOf q, o.d ≠ some n) : ∀ x ∈ q.op.opds, ev (aput ts o.d v) x = ev ts x := by
  intro x hx
  refine ev_aput ?_
  intro n hn
  refine h n ?_
  simp only [readsOf, List.mem_append, List.mem_filterMap]
  exact .inl ⟨x, hx, by rw [hn]⟩

/-- An operation that looks at the heap does so again. -/
def reOk (ts : List AV) (h : Heap) (op : AOp) (u : AV) : Prop :=
  match op with
  | .ld x n => vcLoad h (ev ts x) n (fun v => v = u)
  | .slc x _ _ _ n => slK h (ev ts x) n True
  | _ => True

theorem Waits.put {P : Program} {os : Array Oper} {dir : List (Nat × Nat)} {ops : List AOper} (D : DrawOk P os dir ops) {done : List Nat} {i p : Nat} {o : AOper} (cl : ∀ p ∈ done, ∃ o, os[p]? = some o ∧ ∀ e ∈ o.after.toList, Region.binds .any e = true → e.on ∈ done) (hni : i ∉ done) (ho : ops[i]? = some o) (hp : p ∈ done) {ts : List AV} {h h' : Heap} {v : AV}
    (hw : Waits P ops ts h p) (hx : isPure o.op = false → direct os i p = true → False) (hld : ∀ q d, ops[p]? = some q → (∀ t b, q.g = some (t, b) → tget ts t = .bool b) → q.d = some d → ∃ u, reOk ts h' q.op u ∧ (d < ts.length → tget ts d = u)) : Waits P ops (aput ts o.d v) h' p := by
  obtain ⟨q, hq, hpu, hw⟩ := hw
  have hr := reads_put D cl hni ho (.inl hp) hq hx
  have hdd : ∀ d, q.d = some d → o.d ≠ some d := by
    intro d hd hod
    have hne : p ≠ i := by
      rintro rfl
      exact hni hp
    exact (D.dst p i q o d hq ho hod).2 hne hd
  have hev := ev_put_of_reads (v := v) (ts := ts) hr
  have hgd : ∀ t b, q.g = some (t, b) → tget (aput ts o.d v) t = tget ts t := fun t b e => tget_aput _ _ _ _ (hr t (by simp [readsOf, e]))
  refine ⟨q, hq, hpu, ?_⟩
  rcases hw with ⟨hg, u, hpv, hu⟩ | ⟨⟨t, b, e, ht⟩, hu⟩
  · left
    refine ⟨fun t b e => by rw [hgd t b e]; exact hg t b e, ?_⟩
    obtain ⟨d, hd⟩ := D.pd p q hq hpu
    by_cases hl : isLd q.op = true
    · cases hop : q.op with
      | ld x n =>
        obtain ⟨u', this, hu'⟩ := hld q d hq hg hd
        rw [hop] at this
        simp only [reOk] at this
        refine ⟨u', ?_, fun d' hd' hlt => by rw [hd] at hd'; cases hd'; rw [tget_aput _ _ _ _ (hdd d hd)]; exact hu' (by rwa [aput_length] at hlt)⟩
        rw [hop] at hev
        intro K E k
        refine vcOp_congr (ts := ts) (fun x hx => (hev x hx).symm) ?_
        have key : ∀ cs kk, vcLoadC cs kk n (fun v => v = u') → ∀ K' : AV → Prop, K' u' → vcLoadC cs kk n K' := by
          intro cs kk qq K' kk'
          unfold vcLoadC at qq ⊢
          split at qq
          · split at qq
            · rw [qq]; exact kk'
            · exact qq.elim
          · have q2 := (req_elim qq).2
            rw [forceL_eq] at q2
            exact req_mk (req_elim qq).1 (by rw [forceL_eq, q2]; exact kk')
        simp only [vcOp]
        unfold vcLoad at this ⊢
        split at this
        · obtain ⟨cs0, op0, hi0, this⟩ := withRead_elim this
          exact withRead_mk hi0 (key _ _ this (fun v => K v h') k)
        · exact key _ _ this _ k
        · obtain ⟨cs0, op0, hi0, this⟩ := withRead_elim this
          exact withRead_mk hi0 ⟨key _ _ this.out (fun v => K v h') k⟩
        · exact this.elim
      | slc x lo hi mx n =>
        obtain ⟨_, this, _⟩ := hld q d hq hg hd
        rw [hop] at this hpv hev
        simp only [reOk] at this
        refine ⟨u, ?_, fun d' hd' hlt => by rw [tget_aput _ _ _ _ (hdd d' hd')]; exact hu d' hd' (by rwa [aput_length] at hlt)⟩
        intro K E k
        refine vcOp_congr (ts := ts) (fun x hx => (hev x hx).symm) ?_
        have q := hpv (fun r _ => K r h') E k
        simp only [vcOp] at q ⊢
        exact slK_vc q this
      | _ => rw [hop] at hl; simp [isLd] at hl
    · have hl : isLd q.op = false := by simpa using hl
      refine ⟨u, ?_, fun d' hd' hlt => by rw [tget_aput _ _ _ _ (hdd d' hd')]; exact hu d' hd' (by rwa [aput_length] at hlt)⟩
      intro K E k
      exact vcOp_congr (ts := ts) (fun x hx => (hev x hx).symm) ((hpv.heap hpu hl) K E k)
  · right
    exact ⟨⟨t, b, e, by rw [hgd t b e]; exact ht⟩, fun d hd hlt => by rw [tget_aput _ _ _ _ (hdd d hd)]; exact hu d hd (by rwa [aput_length] at hlt)⟩

theorem Waits.ld {P : Program} {ops : List AOper} {ts : List AV} {h : Heap} {p : Nat} (hw : Waits P ops ts h p) : ∀ q d, ops[p]? = some q → (∀ t b, q.g = some (t, b) → tget ts t = .bool b) → q.d = some d → ∃ u, reOk ts h q.op u ∧ (d < ts.length → tget ts d = u) := by
  intro q d hq hg hd
  obtain ⟨q', hq', _, hw⟩ := hw
  rw [hq] at hq'; cases hq'
  rcases hw with ⟨_, u, hpv, hu⟩ | ⟨⟨t, b, e, ht⟩, _⟩
  · refine ⟨u, ?_, hu d hd⟩
    have := hpv (fun r _ => r = u) (fun _ _ => False) rfl
    cases hop : q.op with
    | ld x n => rw [hop] at this; exact this
    | slc x lo hi mx n => rw [hop] at this; simp only [vcOp] at this; exact slK_of this
    | _ => trivial
  · have := hg t b e
    rcases ht with ht | ⟨l, ht⟩
    · rw [ht] at this
      cases b <;> simp at this
    · rw [ht] at this
      simp at this

theorem advance {dfs : DM} {P : Program} {os : Array Oper} {dir : List (Nat × Nat)} {ops : List AOper} (D : DrawOk P os dir ops) {K : List AV → Heap → Prop} {w0 : Guard} {listed : Array Bool} {h : Heap} {σ : Sig} {a : Act} {w : World} :
    ∀ (rest : DT) (done : List Nat) (ts : List AV), DInv dfs P os dir ops K w0 listed done rest ts h σ a w →
    ∃ done' rest' ts', DInv dfs P os dir ops K w0 listed done' rest' ts' h σ a w ∧ (rest' = .nil ∨ ∃ i u more, rest' = .alt i u more) := by
  intro rest
  induction rest with
  | nil => intro done ts I; exact ⟨done, .nil, ts, I, .inl rfl⟩
  | stop => intro done ts I; have := I.chk; simp [chkDT] at this
  | alt i u more _ _ => intro done ts I; exact ⟨done, .alt i u more, ts, I, .inr ⟨i, u, more, rfl⟩⟩
  | pure i r ih =>
    intro done ts I
    have hck := I.chk
    simp only [chkDT, Bool.and_eq_true] at hck
    obtain ⟨⟨⟨_, hpo⟩, hso⟩, hcr⟩ := hck
    cases ho : ops[i]? with
    | none => rw [ho] at hpo; simp at hpo
    | some o =>
      have hp : isPure o.op = true := by rw [ho] at hpo; exact hpo
      have hpp : ∀ p, isPure o.op = false → direct os i p = true → False := fun _ e _ => by rw [hp] at e; cases e
      have hni : i ∉ done := (stepOk_spec hso).2
      have hnr : ¬ Ran listed i := fun q => hni (I.ran i q)
      have step : ∀ v : AV, vcDraw P dir ops K r (i :: done) (aput ts o.d v) h → Waits P ops (aput ts o.d v) h i → DInv dfs P os dir ops K w0 listed (i :: done) r (aput ts o.d v) h σ a w := by
        intro v hgo hwi
        refine ⟨DInv.clCons I.cl hso, hcr, I.size, I.closed, fun j q => List.mem_cons_of_mem _ (I.ran j q), ?_, I.sim, ?_, I.nd, hgo⟩
        · intro p hp hnr'
          rcases List.mem_cons.1 hp with rfl | hp
          · exact hwi
          · exact Waits.put D I.cl hni ho hp (I.waits p hp hnr') (hpp p) (I.waits p hp hnr').ld
        · intro pend hpend
          have hip := hpend i List.mem_cons_self hnr
          have old := I.fr pend (fun p hp q => hpend p (List.mem_cons_of_mem _ hp) q)
          refine ⟨by rw [aput_length]; exact old.1, fun n => ?_⟩
          by_cases e : o.d = some n
          · exact .inl ⟨i, hip, o, ho, e⟩
          · rw [tget_aput _ _ _ _ e]; exact old.2 n
      have hr := reads_put D I.cl hni ho (.inr rfl) ho (hpp i)
      have hgo0 : dstep P dir ops i done (fun ts h => vcDraw P dir ops K r (i :: done) ts h) ts h := I.go
      rcases dstep_cons ho hgo0 with ⟨hg, v⟩ | ⟨⟨t, b, e, ht⟩, v⟩
      · obtain ⟨u, hgo, hpv⟩ := pure_val hp v
        simp only [drawK, hp] at hgo
        refine ih _ _ (step u hgo ⟨o, ho, hp, .inl ⟨fun t b e => ?_, u, ?_, ?_⟩⟩)
        · rw [tget_aput _ _ _ _ (hr t (by simp [readsOf, e]))]; exact hg t b e
        · intro K' E' k
          exact vcOp_congr (ts := ts) (fun x hx => (ev_put_of_reads (v := u) (ts := ts) hr x hx).symm) (hpv K' E' k)
        · intro d hd hlt
          rw [hd]
          rw [hd, aput_length] at hlt
          exact tget_aput_same hlt
      · refine ih _ _ (step (.tup []) v ⟨o, ho, hp, .inr ⟨⟨t, b, e, ?_⟩, ?_⟩⟩)
        · rw [tget_aput _ _ _ _ (hr t (by simp [readsOf, e]))]; exact ht
        · intro d hd hlt
          rw [hd]
          rw [hd, aput_length] at hlt
          exact tget_aput_same hlt

theorem loose_at {dir : List (Nat × Nat)} {ops : List AOper} {i : Nat} {ts : List AV} {h : Heap} : ∀ {done : List Nat}, loose dir ops i ts h done → ∀ p ∈ done, ∀ q d, ops[p]? = some q → dir.contains (i, p) ≠ true → (∀ t b, q.g = some (t, b) → tget ts t = .bool b) → q.d = some d →
    reOk ts h q.op (tget ts d)
  | [], _, p, hp, _, _, _, _, _, _ => by simp at hp
  | p0 :: ps, hl, p, hp, q, d, hq, hd, hg, hqd => by
    rcases List.mem_cons.1 hp with rfl | hp
    · have h1 := hl.1
      obtain ⟨g, dd, op⟩ := q
      simp only at hqd hg ⊢
      subst hqd
      cases op <;> first | trivial | skip
      · simp only [hq] at h1
        rw [if_neg hd] at h1
        cases g with
        | none => exact h1
        | some tb => exact h1 (hg tb.1 tb.2 rfl)
      · simp only [hq] at h1
        rw [if_neg hd] at h1
        cases g with
        | none => exact h1
        | some tb => exact h1 (hg tb.1 tb.2 rfl)
    · exact loose_at hl.2 p hp q d hq hd hg hqd

theorem ran_set {listed : Array Bool} {i j : Nat} (h : i < listed.size) : Ran (listed.setIfInBounds i true) j ↔ Ran listed j ∨ j = i := by
  unfold Ran
  rw [Array.getD_eq_getD_getElem?, Array.getElem?_setIfInBounds, Array.getD_eq_getD_getElem?]
  by_cases e : i = j
  · subst e; simp [h]
  · rw [if_neg e]
    constructor
    · exact .inl
    · rintro (q | q)
      · exact q
      · exact absurd q.symm e

def cnt (n : Nat) (listed : Array Bool) : Nat := (List.range n).countP fun i => !listed.getD i false

theorem countP_lt {l : List Nat} {p q : Nat → Bool} (hle : ∀ x ∈ l, q x = true → p x = true) {i : Nat} (hi : i ∈ l) (hp : p i = true) (hq : q i = false) : l.countP q < l.countP p := by
  induction l with
  | nil => simp at hi
  | cons x l ih =>
    have hle' : l.countP q ≤ l.countP p := List.countP_mono_left (fun y hy => hle y (List.mem_cons_of_mem _ hy))
    rcases List.mem_cons.1 hi with rfl | hi'
    · simp only [List.countP_cons, hp, hq]; simp; omega
    · have := ih (fun y hy => hle y (List.mem_cons_of_mem _ hy)) hi'
      simp only [List.countP_cons]
      have := hle x List.mem_cons_self
      cases hqx : q x <;> cases hpx : p x <;> simp_all <;> omega

theorem cnt_lt {n : Nat} {listed : Array Bool} {i : Nat} (hi : i < n) (hs : listed.size = n) (hr : ¬ Ran listed i) : cnt n (listed.setIfInBounds i true) < cnt n listed := by
  refine countP_lt (i := i) ?_ (List.mem_range.2 hi) ?_ ?_
  · intro x hx h
    simp only [Bool.not_eq_true'] at h ⊢
    cases hq : listed.getD x false with
    | false => rfl
    | true =>
      have := (ran_set (j := x) (by rw [hs]; exact hi : i < listed.size)).2 (.inl hq)
      unfold Ran at this
      rw [this] at h; cases h
  · simpa [Ran] using hr
  · have := (ran_set (j := i) (by rw [hs]; exact hi : i < listed.size)).2 (.inr rfl)
    unfold Ran at this
    rw [this]; rfl

end Go.Proofs.YtginchgkbgcimaaDoor.AL
