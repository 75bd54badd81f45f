/- A call that is put off and may recover: its body begins with recover and an assignment of what came. -/
import Derived.Test.YtginchgkbgcimaaDoorAflat
import Derived.Recover
import Derived.RecoverIn
import Derived.Test.YtginchgkbgcimaaDoorAround
namespace Go.Proofs.YtginchgkbgcimaaDoor.AL
open Go Go.RowKit

/-- The mode of the frame below: it returns, or it panics with one value. -/
inductive URel (σ : Sig) : Option AV → FrameMode → Prop where
  | none : URel σ none .returning
  | some (v : AV) (u : Value) (h : VR σ v u) : URel σ (some v) (.panicking [{ v := u, recovered := false }])

/-- What recover gives. -/
def recv : Option AV → AV
  | none => .lit .nilIface
  | some v => v

/-- A call that was put off: it returns, and what was raised is recovered. -/
structure ADef (P : Program) (f : FuncId) (args : List AV) (h : Heap) (u : Option AV) (R : Heap → Prop) : Prop where
  run : ∀ w0 σ w (vals : List Value) um, Sim w0 σ h w → VRs σ args vals → URel σ u um →
    CallsDIn Fence.wide 0 P f vals.toArray um w fun e u' w' => (∃ v, e = .returned v) ∧ settle u' = .returning ∧ ∃ h' σ', R h' ∧ Sim w0 σ' h' w' ∧ σ.Le σ'

def defQ (R : Heap → Prop) : Post
  | .normal, _, h => R h
  | .ret, _, h => R h
  | _, _, _ => False

theorem DOk.nil {D : DM} {σ : Sig} {l : List Deferred} (d : DOk D σ l) (h1 : D.ds = []) (h2 : D.fl = false) : l = [] := by
  obtain ⟨bs, e, _, _, k⟩ := d.out
  rw [e, k h2, h1]; rfl

theorem adef_of_vc {P : Program} {f : FuncId} {fn : Func} {n d0 d1 i : Nat} {o0 o1 : Oper} {ty : Array TypeId} {rest : Code} {ac : ACode}
    (hf : P.funcs[f]? = some fn) (hn : fn.ntmps = n) (hres : fn.results = #[])
    (hbody : fn.body = some (.seq (.region i #[o0, o1] false) rest))
    (h0 : o0.dst = some d0 ∧ o0.op = .call { callee := .builtin .recover, args := #[], argTypes := ty } ∧ o0.guard = none)
    (h1 : o1.dst = some d1 ∧ o1.op = .assign (.tmp d0) ∧ o1.guard = none)
    (hc : chkCode P ac rest = true) (hnr : noRfor ac = true) {args : List AV} {h : Heap} {u : Option AV} {R : Heap → Prop} (hd0 : d0 < n) (hl : args.length ≤ n)
    (v : vc P h.length ac (defQ R) (aput (aput (args ++ List.replicate (n - args.length) .wild) (some d0) (recv u)) (some d1) (recv u)) h) : ADef P f args h u R := by
  refine ⟨fun w0 σ w vals um s hv hu => ?_⟩
  refine callsDIn_of_wpSIn (F := Fence.wide) (n := 0) hf hbody trivial fun c₀ cs hm => ?_
  refine wpSIn_seq (wpSIn_region ?_)
  have e0 : ∀ ev : Operand → Value, (execOp ev o0).run P w = .ok .recover w := by
    intro ev; simp only [execOp, h0.2.1]; rfl
  have key : ∀ (x : Value) (cs' : List Frame) (um' : FrameMode), VR σ (recv u) x → cs' = { c₀ with mode := um' } :: cs → settle um' = .returning →
      ∀ a, FR σ (aput (aput (args ++ List.replicate (n - args.length) .wild) (some d0) (recv u)) (some d1) (recv u)) a → a.defers = [] →
      Code.wpSIn Fence.wide 0 P rest (bodyPostS P fn c₀ cs fun e u' w' => (∃ v, e = .returned v) ∧ settle u' = .returning ∧ ∃ h' σ', R h' ∧ Sim w0 σ' h' w' ∧ σ.Le σ') a cs' w := by
    intro x cs' um' hx hcs hset a hfr hd
    refine wpSIn_of_wpIn rfl (wpIn_mono ((wpIn_wide (n := 0)).2 (wp_of_wpX (vc_sound (r := ⟨none, false⟩) (D := ⟨[], fun _ => False, false⟩) ac rest _ _ _ (.inr hnr) (fun l ts h q => q) hc v w0 σ w a s hfr ⟨⟨[], hd, List.nodup_nil, by simp, fun _ => rfl⟩, fun _ h => h.elim⟩))) ?_)
    rintro e a' w' ⟨ae, ts, h', σ', r1, r2, r3, r4, r5, r6⟩
    have le : σ.Le σ' := ⟨fun i l hl => r6.loc i l (s.dom' i l hl) hl, r6.fro, r6.mrk⟩
    have hr : (results fn a'.tmps).run P w' = .ok (.tuple #[]) w' := by
      have := results_run (P := P) (fn := fn) (w := w') (tmps := a'.tmps) (us := []) (by rw [hres]; rfl)
      simpa using this
    cases r1 <;> first
      | exact r2.elim
      | exact ⟨r5.nil rfl rfl, um', hcs, _, hr, ⟨_, rfl⟩, hset, h', σ', r2, r3, le⟩
  have hlen : (args ++ List.replicate (n - args.length) AV.wild).length = n := by simp; omega
  have f0 : FR σ (args ++ List.replicate (n - args.length) .wild) { tmps := vals.toArray ++ Array.replicate (fn.ntmps - vals.toArray.size) undef, defers := [] } := by
    unfold FR
    simp only [Array.toList_append, Array.toList_replicate, List.size_toArray]
    refine VRs.append hv ?_
    rw [hn, ← hv.len]
    exact VRs.replicate_wild σ _ _ (by simp)
  generalize hA : ({ tmps := vals.toArray ++ Array.replicate (fn.ntmps - vals.toArray.size) undef, defers := [] } : Act) = a at f0 ⊢
  have had : a.defers = [] := by rw [← hA]
  have e1 : ∀ (x : Value) b, b.eval (.tmp d0) = x → (execOp (Act.eval b) o1).run P w = .ok (.value x) w := by
    intro b x hx; simp only [execOp, h1.2.1, hx]; rfl
  have hev : ∀ x, VR σ (recv u) x → (a.put (some d0) x).eval (.tmp d0) = x := by
    intro x hx; have hs : d0 < a.tmps.size := by have := VRs.len f0; rw [hlen, Array.length_toList] at this; omega
    simp [Act.put, Act.eval, hs]
  have fin0 : ∀ (x : Value), VR σ (recv u) x → FR σ (aput (aput (args ++ List.replicate (n - args.length) .wild) (some d0) (recv u)) (some d1) (recv u)) ((a.put (some d0) x).put (some d1) x) := fun x hx => (f0.put _ hx).put _ hx
  have hd2 : ∀ x, ((a.put (some d0) x).put (some d1) x).defers = [] := by intro x; simp [put_defers', had]
  have w0' : ∀ t, Region.wanted o0 t = true := by intro t; simp [Region.wanted, h0.2.2]
  have w1' : ∀ t, Region.wanted o1 t = true := by intro t; simp [Region.wanted, h1.2.2]
  have go : ∀ x cs', VR σ (recv u) x → Code.wpSIn Fence.wide 0 P rest (bodyPostS P fn c₀ cs fun e u' w' => (∃ v, e = .returned v) ∧ settle u' = .returning ∧ ∃ h' σ', R h' ∧ Sim w0 σ' h' w' ∧ σ.Le σ') ((a.put (some d0) x).put (some d1) x) cs' w →
      wpOpsSIn Fence.wide 0 P #[o0, o1] (Exit.thenS (Code.wpSIn Fence.wide 0 P rest (bodyPostS P fn c₀ cs fun e u' w' => (∃ v, e = .returned v) ∧ settle u' = .returning ∧ ∃ h' σ', R h' ∧ Sim w0 σ' h' w' ∧ σ.Le σ')) (bodyPostS P fn c₀ cs fun e u' w' => (∃ v, e = .returned v) ∧ settle u' = .returning ∧ ∃ h' σ', R h' ∧ Sim w0 σ' h' w' ∧ σ.Le σ')) [1] (a.put (some d0) x) cs' w := by
    intro x cs' hx q
    rw [wpOpsSIn]
    simp only [List.getElem?_toArray, List.getElem?_cons_succ, List.getElem?_cons_zero, w1', if_true, e1 x _ (hev x hx), h1.1]
    exact ⟨fun _ _ => trivial, q⟩
  show wpOpsSIn Fence.wide 0 P #[o0, o1] _ [0, 1] a _ w
  rw [wpOpsSIn]
  simp only [List.getElem?_toArray, List.getElem?_cons_zero, w0', if_true, e0, h0.1]
  refine ⟨fun _ _ => trivial, ?_⟩
  cases hu with
  | none =>
    have vn : VR σ (recv none) .nilIface := VR.lit _ rfl
    have : recoverD (c₀ :: cs) = none := by simp [recoverD, hm]
    rw [this]
    exact go _ _ vn (key _ _ .returning vn (by rw [← hm]) rfl _ (fin0 _ vn) (hd2 _))
  | some x y hx =>
    have : recoverD (c₀ :: cs) = some (y, { c₀ with mode := .panicking [{ v := y, recovered := true }] } :: cs) := by simp [recoverD, hm]
    rw [this]
    exact go _ _ hx (key _ _ _ hx rfl rfl _ (fin0 _ hx) (hd2 _))

/-- No call of a function value. -/
def notCallv : AOp → Bool
  | .callv .. => false
  | _ => true

/-- A closure is made and its call put off. -/
theorem wp_defer {P : Program} {j t : Nat} {o0 o1 : Oper} {op : AOp} {ty : Array TypeId} {w0 : Guard} {w : World} {σ : Sig} {h : Heap} {ts : List AV} {a : Act} {Q : Exit → Act → World → Prop}
    (hg : o0.guard = none) (hd : o0.dst = some t) (ht : t < ts.length) (hc : chkOp P op o0.op = true) (hnv : notCallv op = true)
    (h1 : o1.dst = none ∧ o1.op = .defer { callee := .value (.tmp t), args := #[], argTypes := ty } ∧ o1.guard = none)
    (s : Sim w0 σ h w) (f : FR σ ts a) {KD : FuncId → List AV → Heap → Prop}
    (v : vcOp P ts h (fun x h' => ∃ g cs, x = .fn (.func g) [] cs ∧ KD g cs h') (fun _ _ => False) op)
    (hn : ∀ g cs cs' h' w' σ', VR σ' (.fn (.func g) [] cs) (.func (.func g) #[] cs') → KD g cs h' → Sim w0 σ' h' w' → σ.Le σ' →
      Q .normal { a.put (some t) (.func (.func g) #[] cs') with defers := { target := .fn (.func g) cs', args := #[] } :: a.defers } w') :
    (Code.region j #[o0, o1] false).wp P Q a w := by
  refine wp_region_list ?_
  show wpList P _ Q [o0, o1] a w
  unfold wpList
  rw [if_pos (by simp [Region.wanted, hg])]
  refine .inl (op_sound hc s f v ?_ ?_ (fun x args i e => by subst e; simp [notCallv] at hnv))
  · rintro x v' h' w' σ' hv ⟨g, cs, rfl, hk⟩ s' le
    cases hv with
    | fn _ _ _ as' cs' hl hh hl' hh' =>
      obtain rfl : as' = #[] := by
        apply Array.eq_empty_of_size_eq_zero; simpa using hl.symm
      have hsz : t < a.tmps.size := by have e : ts.length = a.tmps.toList.length := VRs.len f; rw [e] at ht; simpa using ht
      have hev : (a.put (some t) (.func (.func g) #[] cs')).eval (.tmp t) = .func (.func g) #[] cs' := by simp [Act.put, Act.eval, hsz]
      have he : (execOp (Act.eval (a.put (some t) (.func (.func g) #[] cs'))) o1).run P w' = .ok (.defer { target := .fn (.func g) cs', args := #[] }) w' := by
        simp [execOp, h1.2.1, resolve, hev, Deferred.ofValue]
      rw [hd]
      unfold wpList
      rw [if_pos (by simp [Region.wanted, h1.2.2])]
      refine .inl ?_
      unfold Oper.wp
      rw [he, Oper.upon_defer, h1.1]
      exact hn g cs cs' h' w' σ' (.fn _ _ _ _ _ hl hh hl' hh') hk s' le
  · exact fun _ _ _ _ _ _ hf => hf.elim

theorem pack_VR {σ : Sig} {vs : List AV} {us : List Value} (h2 : VRs σ vs us) : VR σ (packA vs) (if h : us.toArray.size = 1 then us.toArray[0] else .tuple us.toArray) := by
  have hlen := h2.len
  cases vs with
  | nil =>
    have : us = [] := List.length_eq_zero_iff.1 (by simpa using hlen.symm)
    subst this
    exact .tup [] #[] rfl (by intro j x y q; simp at q)
  | cons x vs =>
    cases us with
    | nil => simp at hlen
    | cons u us =>
      cases vs with
      | nil =>
        have : us = [] := List.length_eq_zero_iff.1 (by simpa using hlen.symm)
        subst this
        exact h2.at_ 0 x u rfl rfl
      | cons y vs =>
        cases us with
        | nil => simp at hlen
        | cons u' us =>
          simp only [packA, List.size_toArray, List.length_cons]
          rw [dif_neg (by omega)]
          exact .tup _ _ (by simpa using hlen) (fun j a b p q => h2.at_ j a b p (by simpa using q))

/-- What the results are, once the put off call is over. -/
def afterQ (rs : List RV) (ts : List AV) (R : AEnd → Heap → Prop) (h : Heap) : Prop := vcRes ts h rs fun vs => packK vs fun v => fin (R (.ret v) h)

def defBody (P : Program) (rs : List RV) (g : FuncId) (cs : List AV) (R : AEnd → Heap → Prop) : Post
  | .normal, ts, h => ADef P g cs h none (afterQ rs ts R)
  | .ret, ts, h => ADef P g cs h none (afterQ rs ts R)
  | .pan v, ts, h => ADef P g cs h (some v) (afterQ rs ts R)
  | _, _, _ => False

def defHead (P : Program) (rs : List RV) (t : Nat) (op : AOp) (ac : ACode) (R : AEnd → Heap → Prop) : Post
  | .normal, ts, h => t < ts.length ∧ vcOp P ts h (fun x h' => ∃ g cs, x = .fn (.func g) [] cs ∧ hasBody P g = true ∧ vc P h'.length ac (defBody P rs g cs R) (aput ts (some t) (.fn (.func g) [] cs)) h') (fun _ _ => False) op
  | _, _, _ => False

theorem acalls_of_def {P : Program} {f : FuncId} {fn : Func} {n t j : Nat} {o0 o1 : Oper} {op : AOp} {ty : Array TypeId} {c0 rest : Code} {rs : List RV} {ac0 ac : ACode}
    (hf : P.funcs[f]? = some fn) (hn : fn.ntmps = n) (hr : chkRes P rs fn.results.toList = true)
    (hbody : fn.body = some (.seq c0 (.seq (.region j #[o0, o1] false) rest)))
    (hc0 : chkCode P ac0 c0 = true) (hn0 : noRfor ac0 = true) (hg : o0.guard = none) (hd : o0.dst = some t) (hc : chkOp P op o0.op = true) (hnv : notCallv op = true)
    (h1 : o1.dst = none ∧ o1.op = .defer { callee := .value (.tmp t), args := #[], argTypes := ty } ∧ o1.guard = none)
    (hc1 : chkCode P ac rest = true) {args : List AV} {h : Heap} {R : AEnd → Heap → Prop}
    (v : vc P h.length ac0 (defHead P rs t op ac R) (args ++ List.replicate (n - args.length) .wild) h) : ACalls P f args h R := by
  refine ⟨fun w0 σ w vals s hv => ?_⟩
  refine (callsIn_wide (n := 0)).1 (wpX_callsIn hf hbody ?_)
  have f0 : FR σ (args ++ List.replicate (n - args.length) .wild) { tmps := vals.toArray ++ Array.replicate (fn.ntmps - vals.toArray.size) undef, defers := [] } := by
    unfold FR
    simp only [Array.toList_append, Array.toList_replicate, List.size_toArray]
    refine VRs.append hv ?_
    rw [hn, ← hv.len]
    exact VRs.replicate_wild σ _ _ (by simp)
  refine wpX_seq (wpX_mono (vc_sound (r := ⟨none, true⟩) (D := ⟨[], fun _ => False, false⟩) ac0 c0 _ _ _ (.inr hn0) (fun l ts h q => q) hc0 v w0 σ w _ s f0 ⟨⟨[], rfl, List.nodup_nil, by simp, fun _ => rfl⟩, fun _ h => h.elim⟩) ?_)
  rintro e a w1 ⟨ae, ts, h', σ1, r1, r2, r3, r4, r5, r6⟩
  have le1 : σ.Le σ1 := ⟨fun i l hl => r6.loc i l (s.dom' i l hl) hl, r6.fro, r6.mrk⟩
  cases r1 <;> first | exact r2.elim | skip
  obtain ⟨ht, r2⟩ := r2
  refine wpX_seq (wpX_of_wp (wp_defer hg hd ht hc hnv h1 r3 r4 r2 ?_))
  rintro g cs cs' h2 w2 σ2 hvf ⟨hgb, hv2⟩ s2 le2
  have f2 : FR σ2 (aput ts (some t) (.fn (.func g) [] cs)) { a.put (some t) (.func (.func g) #[] cs') with defers := { target := .fn (.func g) cs', args := #[] } :: a.defers } := (r4.mono le2).put (some t) hvf
  refine wpX_mono (vc_sound (r := ⟨none, true⟩) (D := ⟨[{ target := .fn (.func g) cs', args := #[] }], σ2.mrk, true⟩) ac rest _ _ _ (.inl ⟨rfl, rfl⟩) (fun l ts h q => q) hc1 hv2 w0 σ2 w2 _ s2 f2
    ⟨⟨[], by rw [r5.nil rfl rfl]; rfl, List.nodup_nil, by simp, fun _ => rfl⟩, fun _ h => h⟩) ?_
  rintro e a3 w3 ⟨ae, ts3, h3, σ3, q1, q2, q3, q4, q5, q6⟩
  obtain ⟨bs, b1, b2, b3, _⟩ := q5.out
  let σt : Sig := { σ3 with mrk := fun b => σ3.mrk b ∧ b ∉ bs }
  have vrt : ∀ {x : AV} {v : Value}, VR σ3 x v → VR σt x v := fun r => r.mrkW q3.dom' _
  have le3 : σ2.Le σt := ⟨fun i l hl => q6.loc i l (s2.dom' i l hl) hl, q6.fro, fun b hb => ⟨q6.mrk b hb, fun hm => (b3 b hm).2 hb⟩⟩
  have hcs : VRs σt cs cs'.toList := by
    cases hvf with
    | fn _ _ _ _ _ hl hh hl' hh' => exact ⟨by simpa using hl', fun j x y p q => (hh' j x y p (by simpa using q)).mono le3⟩
  have main : ∀ (u : Option AV) (um : FrameMode), um ≠ .run → URel σt u um → ADef P g cs h3 u (afterQ rs ts3 R) →
      LeavesInM Fence.wide 0 P fn a3.tmps (fun e w' => ∃ r h' σ', ERel σ' r e ∧ R r h' ∧ Sim w0 σ' h' w' ∧ σ.Le σ') a3.defers um w3 := by
    intro u um hum hu hA
    rw [b1]
    refine leavesM_marks hum bs σ3 w3 b2 (fun b hb => (b3 b hb).1) q3 fun w4 s4 => ?_
    have inv : (invoke (.fn (.func g) cs') #[]).run P w4 = .ok (.enter g cs') w4 := by
      have e : invoke (.fn (.func g) cs') #[] = callFunc g (#[] ++ cs') := rfl
      rw [e, Array.empty_append]
      exact call_run hgb cs' w4
    refine ⟨hum, .inr ⟨fun q => by simp [Fence.wide] at q, _, _, g, cs', rfl, inv, fun _ _ => trivial, ?_⟩⟩
    have := hA.run w0 σt w4 cs'.toList um s4 hcs hu
    rw [Array.toArray_toList] at this
    refine CallsDIn.mono this ?_
    rintro e u' w' ⟨⟨v, rfl⟩, hset, h4, σ4, hR, s5, le4⟩
    show LeavesInM Fence.wide 0 P fn a3.tmps _ [] (settle u') w'
    rw [hset]
    unfold afterQ at hR
    simp only [packK_eq, fin_eq] at hR
    have f4 : FR σt ts3 a3 := q4.mrkW q3.dom' _
    obtain ⟨vs, us, k1, k2, k3⟩ := vcRes_sound (P := P) s5 (f4.mono le4) rs fn.results.toList _ hr hR
    exact ⟨_, results_run k1, .ret (packA vs), h4, σ4, .ret _ _ (pack_VR k2), k3, s5, le1.trans (le2.trans (le3.trans le4))⟩
  cases q1 with
  | normal => exact main none .returning (by simp) .none q2
  | ret => exact main none .returning (by simp) .none q2
  | pan x y hx => exact main (some x) _ (by simp) (.some x y (vrt hx)) q2
  | exit id => exact q2.elim
  | goto l => exact q2.elim

def chkDefer (t : Nat) : Op → Bool
  | .defer { callee := .value (.tmp t'), args, .. } => t == t' && args.toList.isEmpty
  | _ => false

theorem chkDefer_eq {t : Nat} {o : Op} (h : chkDefer t o = true) : ∃ ty, o = .defer { callee := .value (.tmp t), args := #[], argTypes := ty } := by
  unfold chkDefer at h
  split at h
  · rename_i t' args ty
    simp only [Bool.and_eq_true, beq_iff_eq, List.isEmpty_iff] at h
    obtain ⟨rfl, h⟩ := h
    obtain rfl : args = #[] := by simpa using h
    exact ⟨_, rfl⟩
  · simp at h

def chkDef (P : Program) (f : FuncId) (n : Nat) (rs : List RV) (ac0 : ACode) (t : Nat) (op : AOp) (ac : ACode) : Bool :=
  match P.funcs[f]? with
  | some fn => fn.ntmps == n && chkRes P rs fn.results.toList && (match fn.body with
    | some (.seq c0 (.seq (.region _ ⟨[o0, o1]⟩ false) rest)) =>
      chkCode P ac0 c0 && noRfor ac0 && notCallv op && chkCode P ac rest && o0.guard.isNone && o0.dst == some t && chkOp P op o0.op && o1.guard.isNone && o1.dst.isNone && chkDefer t o1.op
    | _ => false)
  | none => false

theorem acalls_of_chkDef {P : Program} {f : FuncId} {n t : Nat} {op : AOp} {rs : List RV} {ac0 ac : ACode} (hc : chkDef P f n rs ac0 t op ac = true) {args : List AV} {h : Heap} {R : AEnd → Heap → Prop}
    (v : forceL (args ++ List.replicate (n - args.length) .wild) fun ts => hid (vc P h.length ac0 (defHead P rs t op ac R) ts h)) : ACalls P f args h R := by
  rw [forceL_eq, hid_eq] at v
  unfold chkDef at hc
  split at hc
  · rename_i fn hf
    simp only [Bool.and_eq_true, beq_iff_eq] at hc
    obtain ⟨⟨hn, hr⟩, hc⟩ := hc
    split at hc
    · rename_i c0 j o0 o1 rest hbody
      simp only [Bool.and_eq_true, beq_iff_eq, Option.isNone_iff_eq_none] at hc
      obtain ⟨⟨⟨⟨⟨⟨⟨⟨⟨a1, b1⟩, b2⟩, a2⟩, a3⟩, a4⟩, a5⟩, a6⟩, a7⟩, a8⟩ := hc
      obtain ⟨ty, e⟩ := chkDefer_eq a8
      exact acalls_of_def hf hn hr hbody a1 b1 a3 a4 a5 b2 ⟨a7, e, a6⟩ a2 v
    · simp at hc
  · simp at hc

def chkRecover : Op → Bool
  | .call { callee := .builtin .recover, args, .. } => args.toList.isEmpty
  | _ => false

theorem chkRecover_eq {o : Op} (h : chkRecover o = true) : ∃ ty, o = .call { callee := .builtin .recover, args := #[], argTypes := ty } := by
  unfold chkRecover at h
  split at h
  · rename_i args ty
    simp only [List.isEmpty_iff] at h
    obtain rfl : args = #[] := by simpa using h
    exact ⟨_, rfl⟩
  · simp at h

def chkAsg (d : Nat) : Op → Bool
  | .assign (.tmp d') => d == d'
  | _ => false

theorem chkAsg_eq {d : Nat} {o : Op} (h : chkAsg d o = true) : o = .assign (.tmp d) := by
  unfold chkAsg at h
  split at h
  · simp only [beq_iff_eq] at h; rw [h]
  · simp at h

def chkRec (P : Program) (f : FuncId) (n d0 d1 : Nat) (ac : ACode) : Bool :=
  match P.funcs[f]? with
  | some fn => fn.ntmps == n && fn.results.toList.isEmpty && decide (d0 < n) && (match fn.body with
    | some (.seq (.region _ ⟨[o0, o1]⟩ false) rest) =>
      chkCode P ac rest && noRfor ac && o0.guard.isNone && o0.dst == some d0 && chkRecover o0.op && o1.guard.isNone && o1.dst == some d1 && chkAsg d0 o1.op
    | _ => false)
  | none => false

theorem adef_of_chkRec {P : Program} {f : FuncId} {n d0 d1 : Nat} {ac : ACode} (hc : chkRec P f n d0 d1 ac = true) {args : List AV} {h : Heap} {u : Option AV} {R : Heap → Prop} (hl : args.length ≤ n)
    (v : forceL (aput (aput (args ++ List.replicate (n - args.length) .wild) (some d0) (recv u)) (some d1) (recv u)) fun ts => hid (vc P h.length ac (defQ R) ts h)) : ADef P f args h u R := by
  rw [forceL_eq, hid_eq] at v
  unfold chkRec at hc
  split at hc
  · rename_i fn hf
    simp only [Bool.and_eq_true, beq_iff_eq, decide_eq_true_eq, List.isEmpty_iff] at hc
    obtain ⟨⟨⟨hn, hr⟩, hd⟩, hc⟩ := hc
    split at hc
    · rename_i i o0 o1 rest hbody
      simp only [Bool.and_eq_true, beq_iff_eq, Option.isNone_iff_eq_none] at hc
      obtain ⟨⟨⟨⟨⟨⟨⟨a1, b1⟩, a2⟩, a3⟩, a4⟩, a5⟩, a6⟩, a7⟩ := hc
      obtain ⟨ty, e⟩ := chkRecover_eq a4
      exact adef_of_vc hf hn (by simpa using hr) hbody ⟨a3, e, a2⟩ ⟨a6, chkAsg_eq a7, a5⟩ a1 b1 hd hl v
    · simp at hc
  · simp at hc

theorem Pure.use0 {P : Program} {f : FuncId} {args : List AV} {v : AV} (c : Pure P f args v) {vs : List AV} {h : Heap} (ha : RsL h [] [] vs args) {K E : Cont} (k : K v h) : ACalls P f vs h (andEnd K E) :=
  (c.inF [] ha).mono fun e h' ⟨h1, h2⟩ => by subst h1; rw [frzH_nil] at h2; subst h2; exact k
/-- A tail of a tail. -/
theorem wcut_dd {α : Type} {f : α → AV} {l : List α} (m n r : Nat) (hr : m + n = r) {a b : Nat} {K : List AV → Prop} (ha : a = n) (hb : l.length ≤ r + b) (q : K ((l.drop r).map f)) : wcut ((l.drop m).map f) a b K := by
  subst hr
  refine wcut_dr n ha (by simp; omega) ?_
  rw [List.drop_drop]; exact q
/-- What was raised in a call that is walked in its caller's place. -/
theorem fin_inlP {m : Nat} {K E : Cont} {v : AV} {h : Heap} (k : E v h) : fin (Back m (andEnd K E) (.pan v) h) := fin_mk ⟨.inl k⟩
/-- A call's end by other names. -/
theorem ACalls.back {P : Program} {f : FuncId} {args : List AV} {h : Heap} {R : AEnd → Heap → Prop} (c : ACalls P f args h (Back h.length R)) : ACalls P f args h R := by
  refine ⟨fun w0 σ w vals s hv => (c.run w0 σ w vals s hv).mono ?_⟩
  rintro e w' ⟨r, h', σ', hr, hb, s', le⟩
  rcases hb with ⟨hR | ⟨N, F, e', hh, k1, k2, k3, k4, k5⟩⟩
  · exact ⟨r, h', σ', hr, hR, s', le⟩
  have r6 : σ.LeN h.length (σ'.shape N F h' w') := le.toN.trans (shape_leN s' k4)
  refine ⟨e', hh, σ'.shape N F h' w', ?_, k5, sim_shape s' k2 k3, ⟨fun i l hl => r6.loc i l (s.dom' i l hl) hl, r6.fro, r6.mrk⟩⟩
  cases hr with
  | ret v u hv => cases e' with
    | ret y => exact .ret _ _ (rs_VR s' k1 hv)
    | pan y => exact k1.elim
  | pan v u hv => cases e' with
    | ret y => exact k1.elim
    | pan y => exact .pan _ _ (rs_VR s' k1 hv)

theorem pure_of_def {P : Program} {f : FuncId} {n t : Nat} {op : AOp} {rs : List RV} {ac0 ac : ACode} (hc : chkDef P f n rs ac0 t op ac = true) {args : List AV} {v : AV} (cl : ∀ x ∈ args, IdLt 0 x)
    (v0 : forceL (args ++ List.replicate (n - args.length) .wild) fun ts => hid (vc P 0 ac0 (defHead P rs t op ac (Back 0 fun e h' => e = .ret v ∧ h' = [])) ts [])) : Pure P f args v :=
  ⟨ACalls.back (acalls_of_chkDef hc v0), cl⟩

end Go.Proofs.YtginchgkbgcimaaDoor.AL
