/- A region whose order is open: the end of the proof, and how it is used. -/
import Derived.Test.YtginchgkbgcimaaDoorAdraw2
namespace Go.Proofs.YtginchgkbgcimaaDoor.AL
open Go Go.RowKit

theorem ready_spec {os : Array Oper} {listed : Array Bool} {i : Nat} (h : i ∈ Region.ready .any os listed) : i < os.size ∧ listed.getD i true = false ∧ ∃ o, os[i]? = some o ∧ ∀ e ∈ o.after.toList, Region.binds .any e = true → Ran listed e.on := by
  simp only [Region.ready, List.mem_filter, List.mem_range, Bool.and_eq_true, Bool.not_eq_true'] at h
  obtain ⟨h1, h2, h3⟩ := h
  refine ⟨h1, h2, ?_⟩
  cases ho : os[i]? with
  | none => rw [ho] at h3; simp at h3
  | some o =>
    rw [ho] at h3
    simp only [Option.map_some, Option.getD_some, Array.all_eq_true', Bool.or_eq_true, Bool.not_eq_true'] at h3
    refine ⟨o, rfl, fun e he hb => ?_⟩
    rcases h3 e (by simpa using he) with q | q
    · rw [hb] at q; cases q
    · exact q

theorem not_ran_of {listed : Array Bool} {i : Nat} (h : listed.getD i true = false) : ¬ Ran listed i := by
  unfold Ran
  rw [Array.getD_eq_getD_getElem?] at h ⊢
  cases e : listed[i]? with
  | none => rw [e] at h; simp at h
  | some b => rw [e] at h; simp at h; simp [h]

theorem all_ran {P : Program} {os : Array Oper} {dir : List (Nat × Nat)} {ops : List AOper} (D : DrawOk P os dir ops) {listed : Array Bool} (hs : listed.size = os.size) (h : Region.ready .any os listed = []) : ∀ i, i < os.size → Ran listed i := by
  intro i
  induction i using Nat.strongRecOn with
  | _ i ih =>
    intro hi
    by_cases hr : Ran listed i
    · exact hr
    · exfalso
      have : i ∈ Region.ready .any os listed := by
        simp only [Region.ready, List.mem_filter, List.mem_range, Bool.and_eq_true, Bool.not_eq_true']
        refine ⟨hi, ?_, ?_⟩
        · unfold Ran at hr
          rw [Array.getD_eq_getD_getElem?] at hr ⊢
          have hlt : i < listed.size := by omega
          simp [hlt] at hr ⊢
          exact hr
        · rw [Array.getElem?_eq_getElem hi]
          simp only [Option.map_some, Option.getD_some, Array.all_eq_true', Bool.or_eq_true, Bool.not_eq_true']
          intro e he
          cases hb : Region.binds .any e with
          | false => exact .inl rfl
          | true =>
            have hlt := D.lt i os[i] (Array.getElem?_eq_getElem hi) e (by simpa using he) hb
            exact .inr (ih e.on hlt (by omega))
      rw [h] at this
      simp at this

/-- A store of a value into a slot, over the frame of what has run. -/
theorem FRx.run {σ σ' : Sig} {ops : List AOper} {ts : List AV} {a : Act} {pend : List Nat} {i : Nat} {o : AOper} {v' : Value} (le : σ.Le σ') (ho : ops[i]? = some o) (f : FRx σ ops ts a (i :: pend)) (hv : ∀ d, o.d = some d → d < ts.length → VR σ' (tget ts d) v') :
    FRx σ' ops ts (a.put o.d v') pend := by
  have hsz : (a.put o.d v').tmps.size = a.tmps.size := by cases o.d <;> simp [Act.put]
  refine ⟨by rw [hsz]; exact f.1, fun n => ?_⟩
  by_cases e : o.d = some n
  · right
    by_cases hn : n < ts.length
    · have : (a.put o.d v').tmps.getD n undef = v' := by
        rw [e]
        have hn' : n < a.tmps.size := by rw [← f.1]; exact hn
        simp [Act.put, Array.getD_eq_getD_getElem?, hn']
      rw [this]; exact hv n e hn
    · rw [tget_eq, List.getElem?_eq_none (by omega)]; exact .wild _
  · have hkeep : (a.put o.d v').tmps.getD n undef = a.tmps.getD n undef := by
      cases hd : o.d with
      | none => rfl
      | some m =>
        have hne : m ≠ n := fun q => e (by rw [hd, q])
        simp [Act.put, Array.getD_eq_getD_getElem?, Array.getElem?_setIfInBounds_ne hne]
    rw [hkeep]
    rcases f.2 n with ⟨p, hp, o', ho', hd⟩ | h
    · rcases List.mem_cons.1 hp with rfl | hp
      · rw [ho] at ho'; cases ho'; exact absurd hd e
      · exact .inl ⟨p, hp, o', ho', hd⟩
    · exact .inr (h.mono le)

theorem draw_any {dfs : DM} {r : Option Nat} {n : Nat} {P : Program} {m : Nat} {os : Array Oper} {dir : List (Nat × Nat)} {ops : List AOper} (D : DrawOk P os dir ops) {Q : Post} {w0 : Guard} {σ0 : Sig} : ∀ (fuel : Nat) (listed : Array Bool) (done : List Nat) (rest : DT) (ts : List AV) (h : Heap) (σ : Sig) (a : Act) (w : World),
    DInv dfs P os dir ops (fun ts h => Q .normal ts h) w0 listed done rest ts h σ a w → (rest = .nil ∨ ∃ i u more, rest = .alt i u more) → cnt ops.length listed ≤ fuel → σ0.Le σ →
    wpAnyIn (FW r) n P .any os (Conc dfs m w0 σ0 Q) fuel listed a w := by
  have hlen : ops.length = os.size := by have := chkOpers_len D.hc; simpa using this
  have fin : ∀ (listed : Array Bool) (done : List Nat) (rest : DT) (ts : List AV) (h : Heap) (σ : Sig) (a : Act) (w : World),
      DInv dfs P os dir ops (fun ts h => Q .normal ts h) w0 listed done rest ts h σ a w → (rest = .nil ∨ ∃ i u more, rest = .alt i u more) → σ0.Le σ → (∀ i, i < os.size → Ran listed i) → Conc dfs m w0 σ0 Q .normal a w := by
    intro listed done rest ts h σ a w I hrest le hall
    have hr : rest = .nil := by
      rcases hrest with h | ⟨i, u, more, rfl⟩
      · exact h
      · exfalso
        have hni := DT.fresh I.chk (i := i) (by simp [DT.heads])
        have hck := I.chk
        simp only [chkDT, Bool.and_eq_true] at hck
        obtain ⟨⟨oo, hoo, _⟩, _⟩ := stepOk_spec hck.1.1.1.2
        exact hni (I.ran i (hall i (Array.getElem?_eq_some_iff.1 hoo).1))
    subst hr
    have f := (I.fr [] (fun p hp hnr => by
      exfalso
      obtain ⟨o, ho, _⟩ := I.cl p hp
      exact hnr (hall p (Array.getElem?_eq_some_iff.1 ho).1))).fr
    exact ⟨.normal, ts, h, σ, .normal, I.go, I.sim, f, I.nd, le.toN⟩
  intro fuel
  induction fuel with
  | zero =>
    intro listed done rest ts h σ a w I hrest hcnt le
    have hall : ∀ i, i < os.size → Ran listed i := by
      intro i hi
      by_cases hr : Ran listed i
      · exact hr
      · exfalso
        have := cnt_lt (by rw [hlen]; exact hi : i < ops.length) I.size hr
        omega
    refine ⟨?_, fin listed done rest ts h σ a w I hrest le hall⟩
    cases hq : Region.ready .any os listed with
    | nil => rfl
    | cons i l =>
      obtain ⟨h1, h2, _⟩ := ready_spec (i := i) (by rw [hq]; simp)
      exact absurd (hall i h1) (not_ran_of h2)
  | succ fuel ih =>
    intro listed done rest ts h σ a w I hrest hcnt le
    refine ⟨fun hnil => fin listed done rest ts h σ a w I hrest le (all_ran D (by rw [I.size, hlen]) hnil), ?_⟩
    intro i hi
    obtain ⟨hlt, hg, oo, hoo, hready⟩ := ready_spec hi
    have hnr : ¬ Ran listed i := not_ran_of hg
    have hi' : i < ops.length := by omega
    have hisz : i < listed.size := by rw [I.size]; exact hi'
    have hcnt' : cnt ops.length (listed.setIfInBounds i true) ≤ fuel := by have := cnt_lt hi' I.size hnr; omega
    have hclosed' : ∀ j o, Ran (listed.setIfInBounds i true) j → os[j]? = some o → ∀ e ∈ o.after.toList, Region.binds .any e = true → Ran (listed.setIfInBounds i true) e.on := by
      intro j o hj ho e he hb
      rcases (ran_set hisz).1 hj with q | rfl
      · exact (ran_set hisz).2 (.inl (I.closed j o q ho e he hb))
      · rw [hoo] at ho; cases ho
        exact (ran_set hisz).2 (.inl (hready e he hb))
    obtain ⟨o, ho⟩ : ∃ o, ops[i]? = some o := ⟨_, List.getElem?_eq_getElem hi'⟩
    obtain ⟨oo', hoo', hchk⟩ := chkOpers_at D.hc ho
    have : oo' = oo := by simp only [Array.getElem?_toList] at hoo'; rw [hoo] at hoo'; cases hoo'; rfl
    subst this
    have hparts := hchk
    simp only [chkOper, Bool.and_eq_true, beq_iff_eq] at hparts
    obtain ⟨⟨_, hdd⟩, hop⟩ := hparts
    -- the frame of what has run
    let pend := done.filter fun p => !listed.getD p false
    have hpend : ∀ p ∈ done, ¬ Ran listed p → p ∈ pend := fun p hp hq => List.mem_filter.2 ⟨hp, by simpa [Ran] using hq⟩
    have hpend' : ∀ p ∈ pend, p ∈ done ∧ ¬ Ran listed p := fun p hp => by
      obtain ⟨h1, h2⟩ := List.mem_filter.1 hp
      exact ⟨h1, by simpa [Ran] using h2⟩
    have fm := (I.fr pend hpend).fr
    -- what the operation reads is there
    have hread : ∀ n ∈ readsOf o, tget (masked ops ts pend) n = tget ts n := by
      intro n hn
      refine masked_get ops n pend ts ?_
      intro p hp q hq hd
      obtain ⟨hpd, hpr⟩ := hpend' p hp
      rcases (D.dst i p o q n ho hq hd).1 hn with ⟨_, hdir⟩ | ⟨e1, _⟩
      · exact hpr (reach_ran I.closed 0 i p _ hoo hready hdir)
      · obtain ⟨q', hq', hpu', _⟩ := I.waits p hpd hpr
        rw [hq] at hq'; cases hq'
        rw [e1] at hpu'; cases hpu'
    have hev : ∀ x ∈ o.op.opds, ev (masked ops ts pend) x = ev ts x := by
      intro x hx
      cases x with
      | c v => rfl
      | t n => exact hread n (by simp only [readsOf, List.mem_append, List.mem_filterMap]; exact .inl ⟨.t n, hx, rfl⟩)
    have hgread : ∀ t b, o.g = some (t, b) → tget (masked ops ts pend) t = tget ts t := fun t b e => hread t (by simp [readsOf, e])
    have hwant := wanted_at fm hchk
    unfold wpOpIn
    rw [hoo]
    simp only
    by_cases hin : i ∈ done
    · -- an operation that waited
      obtain ⟨q, hq, hpu, hw⟩ := I.waits i hin hnr
      rw [ho] at hq; cases hq
      have next : ∀ v' w' σ', Sim w0 σ' h w' → σ.Le σ' → (∀ d, o.d = some d → d < ts.length → VR σ' (tget ts d) v') → wpAnyIn (FW r) n P .any os (Conc dfs m w0 σ0 Q) fuel (listed.setIfInBounds i true) (a.put oo'.dst v') w' := by
        intro v' w' σ' s' le' hv'
        refine ih _ done rest ts h σ' _ w' ⟨I.cl, I.chk, by simpa using I.size, hclosed', ?_, ?_, s', ?_, by rw [put_defers']; exact I.nd.mono le'.mrk, I.go⟩ hrest hcnt' (le.trans le')
        · intro j hj
          rcases (ran_set hisz).1 hj with q | rfl
          · exact I.ran j q
          · exact hin
        · intro p hp hq
          exact I.waits p hp fun q => hq ((ran_set hisz).2 (.inl q))
        · intro pd hpd
          rw [← hdd]
          refine FRx.run le' ho (I.fr (i :: pd) ?_) hv'
          intro p hp hq
          by_cases e : p = i
          · rw [e]; exact List.mem_cons_self
          · exact List.mem_cons_of_mem _ (hpd p hp fun q => by
              rcases (ran_set hisz).1 q with q | q
              · exact hq q
              · exact e q)
      rcases hw with ⟨hgt, u, hpv, hu⟩ | ⟨⟨t, b, e, ht⟩, hu⟩
      · rw [if_pos (hwant.1 fun t b e => by rw [hgread t b e]; exact hgt t b e)]
        have v : vcOp P (masked ops ts pend) h (fun v h' => v = u ∧ h' = h) (fun _ _ => False) o.op := vcOp_congr (ts := ts) (fun x hx => (hev x hx).symm) (hpv _ _ ⟨rfl, rfl⟩)
        refine op_soundIn hop I.sim fm v ?_ ?_ r n
        · rintro v v' h' w' σ' hv ⟨rfl, rfl⟩ s' le'
          exact next v' w' σ' s' le' fun d hd hl => by rw [hu d hd hl]; exact hv
        · intro v v' h' w' σ' _ hF _ _; exact hF.elim
      · rw [if_neg (by rw [hwant.2 ⟨t, b, e, by rw [hgread t b e]; exact ht⟩]; simp)]
        refine ⟨fun _ _ => trivial, ?_⟩
        exact next undef w σ I.sim (.refl σ) fun d hd hlt => by rw [hu d hd hlt]; exact vr_undef
    · -- the next effect
      have hih : i ∈ rest.heads := by
        rcases hrest with rfl | ⟨e, u, more, rfl⟩
        · have hck := I.chk
          simp only [chkDT, Bool.and_eq_true, List.all_eq_true, List.mem_range, List.contains_iff_mem] at hck
          exact absurd (hck.2 i hlt) hin
        · have hck := I.chk
          simp only [chkDT, Bool.and_eq_true, Bool.or_eq_true] at hck
          rcases hck.2 with q | q
          · cases q
          · simp only [chkCov, List.all_eq_true, List.mem_range, Bool.or_eq_true, List.contains_iff_mem, List.any_eq_true, List.mem_map] at q
            rcases q i hlt with (q | q) | ⟨s, ⟨k, hk, rfl⟩, q⟩
            · exact absurd q hin
            · exact q
            · exfalso
              exact DT.fresh I.chk hk (I.ran k (rset_ran I.closed i _ hoo hready q))
      obtain ⟨u, ⟨oe, hoe, hpe⟩, hso, hcu, hgo0⟩ := DT.branch I.chk hih I.go
      rw [ho] at hoe; cases hoe
      have next : ∀ (v : AV) v' h' w' σ', Sim w0 σ' h' w' → σ.Le σ' → VR σ' v v' → vcDraw P dir ops (fun ts h => Q .normal ts h) u (i :: done) (aput ts o.d v) h' →
          (∀ p ∈ done, ¬ Ran listed p → ∀ q d, ops[p]? = some q → (∀ t b, q.g = some (t, b) → tget ts t = .bool b) → q.d = some d → ∃ u, reOk ts h' q.op u ∧ (d < ts.length → tget ts d = u)) →
          wpAnyIn (FW r) n P .any os (Conc dfs m w0 σ0 Q) fuel (listed.setIfInBounds i true) (a.put oo'.dst v') w' := by
        intro v v' h' w' σ' s' le' hv hgo hld
        have J : DInv dfs P os dir ops (fun ts h => Q .normal ts h) w0 (listed.setIfInBounds i true) (i :: done) u (aput ts o.d v) h' σ' (a.put oo'.dst v') w' := by
          refine ⟨DInv.clCons I.cl hso, hcu, by simpa using I.size, hclosed', ?_, ?_, s', ?_, by rw [put_defers']; exact I.nd.mono le'.mrk, hgo⟩
          · intro j hj
            rcases (ran_set hisz).1 hj with q | rfl
            · exact List.mem_cons_of_mem _ (I.ran j q)
            · exact List.mem_cons_self
          · intro p hp hq
            have hpi : p ≠ i := fun e => hq ((ran_set hisz).2 (.inr e))
            have hpd : p ∈ done := by
              rcases List.mem_cons.1 hp with q | q
              · exact absurd q hpi
              · exact q
            have hpr : ¬ Ran listed p := fun q => hq ((ran_set hisz).2 (.inl q))
            exact Waits.put D I.cl hin ho hpd (I.waits p hpd hpr) (fun _ hdir => hpr (reach_ran I.closed 0 i p _ hoo hready hdir)) (hld p hpd hpr)
          · intro pd hpd
            have old := I.fr pd (fun p hp hq => hpd p (List.mem_cons_of_mem _ hp) fun q => by
              rcases (ran_set hisz).1 q with q | q
              · exact hq q
              · exact hin (q ▸ hp))
            have hsz : (a.put o.d v').tmps.size = a.tmps.size := by cases o.d <;> simp [Act.put]
            rw [← hdd]
            refine ⟨by rw [aput_length, hsz]; exact old.1, fun n => ?_⟩
            by_cases e : o.d = some n
            · right
              by_cases hn : n < ts.length
              · have : (a.put o.d v').tmps.getD n undef = v' := by
                  rw [e]
                  have hn' : n < a.tmps.size := by rw [← old.1]; exact hn
                  simp [Act.put, Array.getD_eq_getD_getElem?, hn']
                rw [this, e, tget_aput_same hn]; exact hv
              · rw [tget_eq, List.getElem?_eq_none (by rw [aput_length]; omega)]; exact .wild _
            · have hkeep : (a.put o.d v').tmps.getD n undef = a.tmps.getD n undef := by
                cases hd : o.d with
                | none => rfl
                | some m =>
                  have hne : m ≠ n := fun q => e (by rw [hd, q])
                  simp [Act.put, Array.getD_eq_getD_getElem?, Array.getElem?_setIfInBounds_ne hne]
              rw [hkeep, tget_aput _ _ _ _ e]
              rcases old.2 n with q | q
              · exact .inl q
              · exact .inr (q.mono le')
        obtain ⟨done', rest', ts', J', hrest'⟩ := advance D u (i :: done) _ J
        exact ih _ done' rest' ts' h' σ' _ w' J' hrest' hcnt' (le.trans le')
      rcases dstep_cons ho hgo0 with ⟨hgt, v⟩ | ⟨⟨t, b, e, ht⟩, v⟩
      · rw [if_pos (hwant.1 fun t b e => by rw [hgread t b e]; exact hgt t b e)]
        have v' := vcOp_congr (us := masked ops ts pend) (fun x hx => (hev x hx).symm) v
        refine op_soundIn hop I.sim fm v' ?_ ?_ r n
        · rintro v v' h' w' σ' hv hdk s' le'
          simp only [drawK, hpe] at hdk
          obtain ⟨hl, hgo⟩ := looseC_elim hdk
          refine next v v' h' w' σ' s' le' hv hgo ?_
          intro p hp hpr q d hq hg hqd
          refine ⟨tget ts d, loose_at hl p hp q d hq (fun hdir => hpr (rset_ran I.closed i _ hoo hready (D.dirs i p hdir))) hg hqd, fun _ => rfl⟩
        · intro v v' h' w' σ' _ hF _ _; exact hF.elim
      · rw [if_neg (by rw [hwant.2 ⟨t, b, e, by rw [hgread t b e]; exact ht⟩]; simp)]
        refine ⟨fun _ _ => trivial, ?_⟩
        exact next (.tup []) undef h w σ I.sim (.refl σ) vr_undef v (fun p hp hpr => (I.waits p hp hpr).ld)

/-- A region whose order is open. -/
theorem vdraw_sound {dfs : DM} {r : RM} {P : Program} {m : Nat} (hm : P.follows .mixedOrders = true) {id : Nat} {os : Array Oper} {dir : List (Nat × Nat)} {ord : DT} {ops : List AOper} {Q : Post} {ts : List AV} {h : Heap} (hc : chkOpers P os ops os.toList = true) (hd : chkDraw os dir ops ord = true)
    (v : vcDraw P dir ops (fun ts h => Q .normal ts h) ord [] ts h) : AWp P r dfs m (.region id os true) Q ts h := by
  obtain ⟨D, hct⟩ := drawOk_of hc hd
  have hlen : ops.length = os.size := by have := chkOpers_len D.hc; simpa using this
  intro w0 σ w a s f d
  refine wpX_of_in (n := 0) (wpIn_region_any hm ?_)
  have hrep : ∀ i, ¬ Ran (Array.replicate os.size false) i := by
    intro i
    unfold Ran
    rw [Array.getD_eq_getD_getElem?, Array.getElem?_replicate]
    split <;> simp
  have I0 : DInv dfs P os dir ops (fun ts h => Q .normal ts h) w0 (Array.replicate os.size false) [] ord ts h σ a w.drew := by
    refine ⟨fun p hp => by simp at hp, hct, by simp [hlen], fun i o q => absurd q (hrep i), fun i q => absurd q (hrep i), fun p hp => by simp at hp, s.drew, ?_, d, v⟩
    intro pend _
    obtain ⟨h1, h2⟩ := FR_iff.1 f
    exact ⟨h1, fun n => .inr (h2 n)⟩
  obtain ⟨done', rest', ts', J, hrest⟩ := advance D ord [] ts I0
  refine draw_any D os.size _ done' rest' ts' h σ a w.drew J hrest ?_ (.refl σ)
  rw [hlen]
  unfold cnt
  exact Nat.le_trans List.countP_le_length (by simp)

end Go.Proofs.YtginchgkbgcimaaDoor.AL
