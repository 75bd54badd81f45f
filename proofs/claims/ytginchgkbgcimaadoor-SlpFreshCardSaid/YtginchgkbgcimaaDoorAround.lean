/- Ranges over functions: a round, as a call of yield. -/
import Derived.Test.YtginchgkbgcimaaDoorAwp
namespace Go.Proofs.YtginchgkbgcimaaDoor.AL
open Go Go.RowKit

def setPs : List AV → List Nat → List AV → List AV
  | ts, p :: ps, x :: xs => setPs (ts.set p x) ps xs
  | ts, _, _ => ts

/-- Behind the assignments to the loop's variables. -/
def asgQ (i : Nat) (N : List AV → Heap → Prop) : Post
  | .normal, ts, h => (match h[i]? with | some (.loop c us .ready) => withSet h i (.loop c us .busy) fun h' => N ts h' | _ => False)
  | _, _, _ => False
/-- A round's end. -/
def roundQ (m i : Nat) (R : AEnd → Heap → Prop) : Post
  | .normal, _, h => (match h[i]? with | some (.loop c us .busy) => withSet h i (.loop c us .ready) fun h' => fin (Back m R (.ret (.bool true)) h') | _ => False)
  | .ret, _, h => (match h[i]? with | some (.loop c us .busy) => withSet h i (.loop c us (.done .ret)) fun h' => fin (Back m R (.ret (.bool false)) h') | _ => False)
  | .exit id, _, h => (match h[i]? with | some (.loop c us .busy) => withSet h i (.loop c us (.done (.exit id))) fun h' => fin (Back m R (.ret (.bool false)) h') | _ => False)
  | .pan v, _, h => fin (Back m R (.pan v) h)
  | .goto _, _, _ => False

theorem setPs_VRs {σ : Sig} : ∀ (ps : List Nat) (xs : List AV) (us : List Value) (ts : List AV) (t : Array Value), xs.length = ps.length → VRs σ xs us → VRs σ ts t.toList →
    VRs σ (setPs ts ps xs) ((ps.zip us).foldl (fun tmps (t, a) => tmps.setIfInBounds t a) t).toList := by
  intro ps
  induction ps with
  | nil =>
    intro xs us ts t hl hx ht
    cases xs with
    | nil => simpa [setPs] using ht
    | cons x xs => simp at hl
  | cons p ps ih =>
    intro xs us ts t hl hx ht
    cases xs with
    | nil => simp at hl
    | cons x xs =>
      cases us with
      | nil => have := hx.len; simp at this
      | cons u us =>
        have hxu : VR σ x u := hx.at_ 0 x u rfl rfl
        have hxs : VRs σ xs us := ⟨by have := hx.len; simpa using this, fun j a b p q => hx.at_ (j + 1) a b (by simpa using p) (by simpa using q)⟩
        have := ih xs us (ts.set p x) (t.setIfInBounds p u) (by simpa using hl) hxs (by rw [Array.toList_setIfInBounds]; exact ht.set p hxu)
        simpa [setPs] using this

theorem ayld_of {P : Program} {i : Nat} {ps : List Nat} {aa ab : ACode} {ts args : List AV} {h : Heap} {R : AEnd → Heap → Prop} (hi : h[i]? = some (.loop (rLC P ps aa ab) ts .ready)) (hn : (noRfor aa && noRfor ab) = true) (hlen : args.length = ps.length)
    (v : forceL (setPs ts ps args) fun us => vc P h.length aa (asgQ i fun ts' h' => hid (vc P h.length ab (roundQ h.length i R) ts' h')) us h) : AYld P i args h R := by
  rw [forceL_eq] at v
  simp only [Bool.and_eq_true] at hn
  refine ⟨fun n w0 σ w vals l s hv hl => ?_⟩
  obtain ⟨fn, t, as, bd, d, ⟨hfn, h3, h4⟩, hb, hts⟩ := (s.ex.loop i _ _ _ l hi hl).blk
  refine ⟨fn, _, as, bd, run_yield hb (by have := hv.len; simp [rLC]; omega), ?_⟩
  refine roundIn_of_wpX hfn ?_
  have hng1 : NoGoto (asgQ i fun ts' h' => hid (vc P h.length ab (roundQ h.length i R) ts' h')) := fun l ts h q => q
  have hng2 : NoGoto (roundQ h.length i R) := fun l ts h q => q
  have aw := vc_sound (r := ⟨some l.b, true⟩) (D := ⟨[], fun _ => False, false⟩) aa as _ _ _ (.inr hn.1) hng1 h3 v w0 σ w { tmps := (((rLC P ps aa ab).ps.toArray.zip vals.toArray).foldl (fun tmps (t, a) => tmps.setIfInBounds t a) t), defers := [] } s (by
      have := setPs_VRs ps args vals ts t hlen hv hts
      unfold FR
      rw [← Array.foldl_toList, Array.toList_zip]
      exact this)
    ⟨⟨[], rfl, List.nodup_nil, by simp, fun _ => rfl⟩, fun _ h => h.elim⟩
  refine wpX_mono aw ?_
  rintro e a1 w1 ⟨ae, ts1, h1, σ1, r1, r2, r3, r4, r5, r6⟩
  cases r1 with
  | exit id => exact r2.elim
  | goto q => exact r2.elim
  | ret => exact r2.elim
  | pan v u hu => exact r2.elim
  | normal =>
    simp only [asgQ] at r2
    split at r2
    rotate_left
    · exact r2.elim
    rename_i c1 us1 e1
    have hl1 : σ1.loc i = some l := r6.loc i l (List.getElem?_eq_some_iff.1 hi).1 hl
    obtain ⟨fn1, t1, as1, bd1, d1, q1, q2, q3⟩ := (r3.ex.loop i _ _ _ l e1 hl1).blk
    refine ⟨_, run_beginRound q2 rfl, ?_⟩
    have s2 := r3.putLoop e1 hl1 { state := .busy, pending := none, fn := fn1, tmps := t1, params := c1.ps.toArray, assign := as1, body := bd1, defers := d1 } (.loop c1 us1 .busy)
      (.inr ⟨.busy, rfl, fun w' hw' => ⟨(r3.ex.loop i _ _ _ l e1 hl1).base, fn1, t1, as1, bd1, d1, q1, hw', q3⟩⟩)
    have aw2 := vc_sound (r := ⟨some l.b, true⟩) (D := ⟨[], fun _ => False, false⟩) ab bd _ _ _ (.inr hn.2) hng2 h4 ((hid_iff _).1 (withSet_elim r2)) w0 σ1 _ a1 s2 r4 r5
    refine wpX_mono aw2 ?_
    rintro e a2 w2 ⟨ae, ts2, h2, σ2, x1, x2, x3, x4, x5, x6⟩
    have hl2 : σ2.loc i = some l := x6.loc i l (List.getElem?_eq_some_iff.1 hi).1 hl1
    have le2 : σ.LeN h.length σ2 := r6.trans x6
    have leOf : ∀ {τ : Sig}, σ2.LeN h.length τ → σ.Le τ := fun k => ⟨fun i l hl => k.loc i l (s.dom' i l hl) (le2.loc i l (s.dom' i l hl) hl), fun b c hb => k.fro b c (le2.fro b c hb), fun b hb => k.mrk b (le2.mrk b hb)⟩
    have back : ∀ {h3 : Heap} {w3 : World}, Sim w0 σ2 h3 w3 → ∀ (r : AEnd) (en : Ending), ERel σ2 r en → Back h.length R r h3 → ∃ r h'' σ'', ERel σ'' r en ∧ R r h'' ∧ Sim w0 σ'' h'' w3 ∧ σ.Le σ'' := by
      rintro h3 w3 s3 r en hr ⟨hR | ⟨N, F, e', hh, k1, k2, k3, k4, k5⟩⟩
      · exact ⟨r, h3, σ2, hr, hR, s3, leOf (.refl _ _)⟩
      refine ⟨e', hh, σ2.shape N F h3 w3, ?_, k5, sim_shape s3 k2 k3, leOf (shape_leN s3 k4)⟩
      cases hr with
      | ret v u hv => cases e' with
        | ret y => exact .ret _ _ (rs_VR s3 k1 hv)
        | pan y => exact k1.elim
      | pan v u hv => cases e' with
        | ret y => exact k1.elim
        | pan y => exact .pan _ _ (rs_VR s3 k1 hv)
    cases x1 with
    | goto q => exact x2.elim
    | pan v u hu =>
      refine ⟨?_, back x3 (.pan v) _ (.pan v u hu) (fin_el x2)⟩
      obtain ⟨bs, y1, _, _, y4⟩ := x5.out
      rw [y1, y4 rfl]; rfl
    | normal =>
      simp only [roundQ] at x2
      split at x2
      rotate_left
      · exact x2.elim
      rename_i c2 us2 e2
      have LL := x3.ex.loop i _ _ _ l e2 hl2
      obtain ⟨fn2, t2, as2, bd2, d2, y1, y2, y3⟩ := LL.blk
      exact ⟨_, _, run_endRound none y2, back (x3.putLoop e2 hl2 _ (.loop c2 us2 .ready) (.inr ⟨.ready, rfl, fun w' hw' => ⟨LL.base, fn2, t2, as2, bd2, d2, y1, hw', y3⟩⟩)) (.ret (.bool true)) _ (.ret _ _ (.bool true)) (fin_el (withSet_elim x2))⟩
    | ret =>
      simp only [roundQ] at x2
      split at x2
      rotate_left
      · exact x2.elim
      rename_i c2 us2 e2
      have LL := x3.ex.loop i _ _ _ l e2 hl2
      obtain ⟨fn2, t2, as2, bd2, d2, y1, y2, y3⟩ := LL.blk
      exact ⟨_, _, run_endRound (some .ret) y2, back (x3.putLoop e2 hl2 _ (.loop c2 us2 (.done .ret)) (.inr ⟨.done .ret, rfl, fun w' hw' => ⟨LL.base, fn2, t2, as2, bd2, d2, y1, hw', y3⟩⟩)) (.ret (.bool false)) _ (.ret _ _ (.bool false)) (fin_el (withSet_elim x2))⟩
    | exit id =>
      simp only [roundQ] at x2
      split at x2
      rotate_left
      · exact x2.elim
      rename_i c2 us2 e2
      have LL := x3.ex.loop i _ _ _ l e2 hl2
      obtain ⟨fn2, t2, as2, bd2, d2, y1, y2, y3⟩ := LL.blk
      exact ⟨_, _, run_endRound (some (.exit id)) y2, back (x3.putLoop e2 hl2 _ (.loop c2 us2 (.done (.exit id))) (.inr ⟨.done (.exit id), rfl, fun w' hw' => ⟨LL.base, fn2, t2, as2, bd2, d2, y1, hw', y3⟩⟩)) (.ret (.bool false)) _ (.ret _ _ (.bool false)) (fin_el (withSet_elim x2))⟩

/-- The end of a function that is ranged over, walked in its caller's place. -/
theorem fin_inlE {m i : Nat} {ts : List AV} {Q : Post} {e : AEnd} {h : Heap} (k : rEnd i ts Q e h) : fin (Back m (rEnd i ts Q) e h) := fin_mk ⟨.inl k⟩

theorem fin_andR {K E : Cont} {v : AV} {h : Heap} (k : K v h) : fin (andEnd K E (.ret v) h) := fin_mk k
theorem fin_andP {K E : Cont} {v : AV} {h : Heap} (k : E v h) : fin (andEnd K E (.pan v) h) := fin_mk k

end Go.Proofs.YtginchgkbgcimaaDoor.AL
