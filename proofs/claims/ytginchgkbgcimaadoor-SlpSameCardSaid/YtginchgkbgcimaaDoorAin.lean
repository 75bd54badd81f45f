/- The walk, in rounds of ranges over functions too: of frames whose functions there are. -/
import Derived.Test.YtginchgkbgcimaaDoorAopS
import Derived.TacticsIn
import Derived.RangeFuncRecord
import Derived.RangeFuncSeq
namespace Go.Proofs.YtginchgkbgcimaaDoor.AL
open Go Go.RowKit

/-- No fence; in a round, or not. -/
def FW (r : Option Nat) : Fence := { Fence.wide with round := r }
theorem FW.room (r : Option Nat) (n : Nat) : (FW r).room n := room_wide n

/-- In what frames: of what round, if of one; only those whose functions there are. -/
structure RM where
  r : Option Nat
  ok : Bool
/-- As 'wpIn' without a fence, of those frames. -/
def WpX (P : Program) (r : RM) (c : Code) (Q : Exit → Act → World → Prop) (a : Act) (w : World) : Prop :=
  ∀ (b : Frame) (k : List Item) (cs : List Frame), b.roundOf = r.r → (r.ok = true → ∃ fn, P.funcs[b.fn]? = some fn) → ∃ e a' w', Q e a' w' ∧ ArrivesIn (Machine.fenced P Fence.wide) P (lone (b.atR a (.code c :: k)) cs w) b k cs e a' w'

section
variable {P : Program} {r : RM} {Q : Exit → Act → World → Prop} {a : Act} {w : World}

theorem wpX_of_in {c : Code} {n : Nat} (h : c.wpIn (FW r.r) n P Q a w) : WpX P r c Q a w := fun b k cs hro _ => h b k cs hro trivial (FW.room r.r _)
theorem wp_of_wpX {c : Code} (h : WpX P ⟨none, false⟩ c Q a w) : c.wp P Q a w := (wpIn_wide (n := 0)).1 fun b k cs hro _ _ => h b k cs hro (by simp)
theorem wpX_of_wp {c : Code} {ok : Bool} (h : c.wp P Q a w) : WpX P ⟨none, ok⟩ c Q a w := wpX_of_in (n := 0) ((wpIn_wide (n := 0)).2 h)
theorem wpX_mono {c : Code} {Q' : Exit → Act → World → Prop} (h : WpX P r c Q a w) (hq : ∀ e a w, Q e a w → Q' e a w) : WpX P r c Q' a w :=
  fun b k cs hro hb => let ⟨e, a', w', q, s⟩ := h b k cs hro hb; ⟨e, a', w', hq _ _ _ q, s⟩
theorem wpX_skip (h : Q .normal a w) : WpX P r .skip Q a w := wpX_of_in (n := 0) (wpIn_skip h)
theorem wpX_label {l : Nat} (h : Q .normal a w) : WpX P r (.label l) Q a w := wpX_of_in (n := 0) (wpIn_label h)
theorem wpX_exit {id : Nat} (h : Q (.exit id) a w) : WpX P r (.exit id) Q a w := wpX_of_in (n := 0) (wpIn_exit h)
theorem wpX_ret (h : Q .ret a w) : WpX P r .ret Q a w := wpX_of_in (n := 0) (wpIn_ret h)

theorem one_wide {m m' : Machine} (h : step P m = .next m') : StepsIn (Machine.fenced P Fence.wide) P m m' := .one (fenced_wide P m) h

theorem wpX_seq {x y : Code} (h : WpX P r x (Exit.then (WpX P r y Q) Q) a w) : WpX P r (.seq x y) Q a w := by
  intro b k cs hro hb
  obtain ⟨e, a1, w1, hq, harr⟩ := h b (.code y :: k) cs hro hb
  have fwd : ∀ {e a1 w1}, e ≠ .normal → Q e a1 w1 → ArrivesIn (Machine.fenced P Fence.wide) P (lone (b.atR a (.code x :: .code y :: k)) cs w) b (.code y :: k) cs e a1 w1 →
      ∃ e a' w', Q e a' w' ∧ ArrivesIn (Machine.fenced P Fence.wide) P (lone (b.atR a (.code (.seq x y) :: k)) cs w) b k cs e a' w' :=
    fun {e a1 w1} hne q arr => ⟨e, a1, w1, q, .of_steps (one_wide stepR_seq) (.pass (x := .code y) rfl (fun _ _ => .inl hne) arr)⟩
  cases e with
  | normal =>
    obtain ⟨e2, a2, w2, hq2, harr2⟩ := hq b k cs hro hb
    exact ⟨e2, a2, w2, hq2, .of_steps ((one_wide stepR_seq).trans harr) harr2⟩
  | exit id => exact fwd (by simp) hq harr
  | goto l => exact fwd (by simp) hq harr
  | ret => exact fwd (by simp) hq harr
  | panic ch => exact fwd (by simp) hq harr
  | outgrown => exact fwd (by simp) hq harr

theorem wpX_cond_split {c : Operand} {x y : Code} {t : Bool} (hc : a.eval c = .bool t) (ht : t = true → WpX P r x Q a w) (hf : t = false → WpX P r y Q a w) : WpX P r (.cond c x y) Q a w := by
  intro b k cs hro hb
  cases t with
  | true => obtain ⟨e, a', w', q, s⟩ := ht rfl b k cs hro hb; exact ⟨e, a', w', q, .of_steps (one_wide (stepR_cond hc)) s⟩
  | false => obtain ⟨e, a', w', q, s⟩ := hf rfl b k cs hro hb; exact ⟨e, a', w', q, .of_steps (one_wide (stepR_cond hc)) s⟩

theorem wpX_block {id : Nat} {c : Code} (h : WpX P r c (Exit.inBlock id Q) a w) : WpX P r (.block id c) Q a w := by
  intro b k cs hro hb
  obtain ⟨e, a1, w1, hq, harr⟩ := h b (.inBlock id :: k) cs hro hb
  have s0 := one_wide (P := P) (stepR_block (b := b) (a := a) (k := k) (cs := cs) (w := w) (id := id) (c := c))
  cases e with
  | normal => exact ⟨.normal, a1, w1, hq, (s0.trans harr).trans (one_wide stepR_inBlock)⟩
  | exit id' =>
    by_cases hid : id' = id
    · simp only [Exit.inBlock, hid, if_true] at hq
      exact ⟨.normal, a1, w1, hq, s0.trans (harr.1 k (by simp [exitTo, hid]))⟩
    · simp only [Exit.inBlock, hid, if_false] at hq
      have hx : exitTo id' (.inBlock id :: k) = exitTo id' k := by
        have : (id == id') = false := by simpa using fun h => hid h.symm
        simp [exitTo, this]
      exact ⟨.exit id', a1, w1, hq, fun k' hk => s0.trans (harr.1 k' (hx.trans hk)), fun h1 hk => let ⟨k1, q1, q2⟩ := harr.2 h1 (hx.trans hk); ⟨k1, q1, s0.trans q2⟩⟩
  | goto l =>
    have hx : gotoIn l (.inBlock id :: k) = gotoIn l k := by simp [gotoIn]
    exact ⟨_, a1, w1, hq, fun k' hk => s0.trans (harr.1 k' (hx.trans hk)), fun h1 hk => let ⟨k1, q1, q2⟩ := harr.2 h1 (hx.trans hk); ⟨k1, q1, s0.trans q2⟩⟩
  | ret => exact ⟨_, a1, w1, hq, .of_steps s0 harr⟩
  | panic ch => exact ⟨_, a1, w1, hq, .of_steps s0 harr⟩
  | outgrown => exact ⟨_, a1, w1, hq, .of_steps s0 harr⟩

/-- A loop that is entered already. -/
def LoopW (P : Program) (r : RM) (c : Code) (Q : Exit → Act → World → Prop) (a : Act) (w : World) : Prop :=
  ∀ (b : Frame) (k : List Item) (cs : List Frame), b.roundOf = r.r → (r.ok = true → ∃ fn, P.funcs[b.fn]? = some fn) → ∃ e a' w', Q e a' w' ∧ ArrivesIn (Machine.fenced P Fence.wide) P (lone (b.atR a (.code c :: .inLoop c :: k)) cs w) b k cs e a' w'
theorem LoopW.wp {c : Code} (h : LoopW P r c Q a w) : WpX P r (.loop c) Q a w := fun b k cs hro hb =>
  let ⟨e, a', w', q, s⟩ := h b k cs hro hb; ⟨e, a', w', q, .of_steps (one_wide stepR_loop) s⟩
theorem LoopW.mono {c : Code} {Q' : Exit → Act → World → Prop} (hq : ∀ e a w, Q e a w → Q' e a w) (h : LoopW P r c Q a w) : LoopW P r c Q' a w := fun b k cs hro hb =>
  let ⟨e, a', w', q, s⟩ := h b k cs hro hb; ⟨e, a', w', hq _ _ _ q, s⟩
theorem LoopW.of {c : Code} (h : WpX P r c (Exit.then (LoopW P r c Q) Q) a w) : LoopW P r c Q a w := by
  intro b k cs hro hb
  obtain ⟨e, a1, w1, hq, harr⟩ := h b (.inLoop c :: k) cs hro hb
  cases e with
  | normal =>
    obtain ⟨e2, a2, w2, hq2, harr2⟩ := hq b k cs hro hb
    exact ⟨e2, a2, w2, hq2, .of_steps (StepsIn.trans harr (one_wide stepR_inLoop)) harr2⟩
  | exit id => exact ⟨_, a1, w1, hq, .pass (x := .inLoop c) rfl (fun _ _ => .inl (by simp)) harr⟩
  | goto l => exact ⟨_, a1, w1, hq, .pass (x := .inLoop c) rfl (fun _ _ => .inl (by simp)) harr⟩
  | ret => exact ⟨_, a1, w1, hq, .pass (x := .inLoop c) rfl (fun _ _ => .inl (by simp)) harr⟩
  | panic ch => exact ⟨_, a1, w1, hq, .pass (x := .inLoop c) rfl (fun _ _ => .inl (by simp)) harr⟩
  | outgrown => exact ⟨_, a1, w1, hq, .pass (x := .inLoop c) rfl (fun _ _ => .inl (by simp)) harr⟩

theorem stepX_scope {b : Frame} {k : List Item} {cs : List Frame} {c : Code} : step P (lone (b.atR a (.code (.scope c) :: k)) cs w) = .next (lone (b.atR a (.code c :: .inScope c :: k)) cs w) :=
  step_lone_go (by simp [stepG, stepG.exec, Frame.atR])
theorem stepX_inScope {b : Frame} {k : List Item} {cs : List Frame} {c : Code} : step P (lone (b.atR a (.inScope c :: k)) cs w) = .next (lone (b.atR a k) cs w) :=
  step_lone_go (by simp [stepG, stepG.exec, Frame.atR])
/-- A scope that nobody jumps in. -/
theorem wpX_scope_plain {c : Code} (hq : ∀ l a w, ¬ Q (.goto l) a w) (h : WpX P r c Q a w) : WpX P r (.scope c) Q a w := by
  intro b k cs hro hb
  obtain ⟨e, a1, w1, hq1, harr⟩ := h b (.inScope c :: k) cs hro hb
  have s0 := one_wide (P := P) (stepX_scope (b := b) (a := a) (k := k) (cs := cs) (w := w) (c := c))
  cases e with
  | normal => exact ⟨.normal, a1, w1, hq1, (s0.trans harr).trans (one_wide stepX_inScope)⟩
  | exit id =>
    have hx : exitTo id (.inScope c :: k) = exitTo id k := by simp [exitTo]
    exact ⟨.exit id, a1, w1, hq1, fun k' hk => s0.trans (harr.1 k' (hx.trans hk)), fun h1 hk => let ⟨k1, q1, q2⟩ := harr.2 h1 (hx.trans hk); ⟨k1, q1, s0.trans q2⟩⟩
  | goto l => exact absurd hq1 (hq _ _ _)
  | ret => exact ⟨_, a1, w1, hq1, .of_steps s0 harr⟩
  | panic ch => exact ⟨_, a1, w1, hq1, .of_steps s0 harr⟩
  | outgrown => exact ⟨_, a1, w1, hq1, .of_steps s0 harr⟩

/-- Without a round, all frames: the plain walk. -/
theorem wpX_callsIn {f : FuncId} {fn : Func} {c : Code} {args : Array Value} {R : Ending → World → Prop} {n : Nat}
    (hf : P.funcs[f]? = some fn) (hb : fn.body = some c)
    (h : WpX P ⟨none, true⟩ c (bodyPostM Fence.wide n P fn R) { tmps := args ++ Array.replicate (fn.ntmps - args.size) undef, defers := [] } w) : CallsIn Fence.wide n P f args w R := by
  refine ⟨trivial, fun cs hr => ?_⟩
  let b : Frame := { (default : Frame) with fn := f, kind := .normal, roundOf := none }
  have henter : Frame.enter P f args .normal = b.atR { tmps := args ++ Array.replicate (fn.ntmps - args.size) undef, defers := [] } [.code c] := by
    simp [Frame.enter, Frame.atR, hf, hb, b]
  obtain ⟨e, a', w', hq, harr⟩ := h b [] cs rfl fun _ => ⟨fn, hf⟩
  rw [← henter] at harr
  cases e with
  | normal =>
    obtain ⟨e', w2, fr', hR, hs, hfn, hl⟩ := leaves_stepsInM (F := Fence.wide) a'.defers .returning w' { b.atR a' [] with mode := .returning } cs rfl rfl rfl hf rfl trivial hr hq
    exact ⟨e', w2, fr', hR, ComesIn.of_steps (StepsIn.trans harr (one_wide (stepR_end rfl))) hs, hfn, hl⟩
  | ret =>
    obtain ⟨todo, hs0⟩ := harr.1 rfl
    obtain ⟨e', w2, fr', hR, hs, hfn, hl⟩ := leaves_stepsInM (F := Fence.wide) a'.defers .returning w' { b.atR a' todo with mode := .returning } cs rfl rfl rfl hf rfl trivial hr hq
    exact ⟨e', w2, fr', hR, ComesIn.of_steps hs0 hs, hfn, hl⟩
  | panic chain =>
    obtain ⟨todo, hs0⟩ := harr
    obtain ⟨e', w2, fr', hR, hs, hfn, hl⟩ := leaves_stepsInM (F := Fence.wide) a'.defers (.panicking chain) w' { b.atR a' todo with mode := .panicking chain } cs rfl rfl rfl hf rfl trivial hr hq
    exact ⟨e', w2, fr', hR, ComesIn.of_steps hs0 hs, hfn, hl⟩
  | exit id => exact hq.elim
  | goto l => exact hq.elim
  | outgrown => exact ⟨.outgrown, w', b, hq, harr.resolve_left (by simp [b]), rfl, trivial⟩

/-- What a round comes to, by the way in which its body is left. -/
def roundX (P : Program) (l : Nat) (R : Ending → World → Prop) : Exit → Act → World → Prop
  | .normal, _, w => ∃ v w', (Instr.endRound l none).run P w = .ok v w' ∧ R (.returned v) w'
  | .ret, _, w => ∃ v w', (Instr.endRound l (some .ret)).run P w = .ok v w' ∧ R (.returned v) w'
  | .exit id, _, w => ∃ v w', (Instr.endRound l (some (.exit id))).run P w = .ok v w' ∧ R (.returned v) w'
  | .panic ch, a, w => a.defers = [] ∧ R (.panicked ch) w
  | _, _, _ => False

/-- A round, panics and all. -/
theorem roundIn_of_wpX {l : Nat} {f : FuncId} {tmps : Array Value} {assign body : Code} {R : Ending → World → Prop} {n : Nat} (hF : ∃ fn, P.funcs[f]? = some fn)
    (h : WpX P ⟨some l, true⟩ assign (Exit.then (fun a1 w1 => ∃ w2, (Instr.beginRound l).run P w1 = .ok () w2 ∧ WpX P ⟨some l, true⟩ body (roundX P l R) a1 w2) (fun _ _ _ => False)) { tmps := tmps, defers := [] } w) : RoundIn Fence.wide n P l f tmps assign body w R := by
  refine ⟨trivial, fun c cs _ => ?_⟩
  let b : Frame := { (default : Frame) with fn := f, kind := .normal, roundOf := some l }
  have hb0 : Frame.round l f tmps assign body .normal = b.atR { tmps := tmps, defers := [] } [.code assign, .beginRound, .code body] := by simp [Frame.round, Frame.atR, b]
  obtain ⟨e, a1, w1, hq, harr⟩ := h b [.beginRound, .code body] (c :: cs) rfl fun _ => hF
  rw [← hb0] at harr
  cases e with
  | normal =>
    obtain ⟨w2, hbr, hbody⟩ := hq
    have s1 := StepsIn.trans harr (one_wide (stepR_beginRound (b := b) (a := a1) (k := [.code body]) (cs := c :: cs) rfl hbr))
    obtain ⟨e2, a2, w3, hq2, harr2⟩ := hbody b [] (c :: cs) rfl fun _ => hF
    cases e2 with
    | normal =>
      obtain ⟨v, w4, hend, hR⟩ := hq2
      exact ⟨.returned v, w4, hR, (s1.trans harr2).trans (one_wide (stepR_round_end rfl rfl hend))⟩
    | ret =>
      obtain ⟨v, w4, hend, hR⟩ := hq2
      obtain ⟨k1, hs⟩ := harr2.2 rfl
      exact ⟨.returned v, w4, hR, (s1.trans hs).trans (one_wide (stepR_round_ret rfl rfl hend))⟩
    | exit id =>
      obtain ⟨v, w4, hend, hR⟩ := hq2
      obtain ⟨k1, hk, hs⟩ := harr2.2 rfl rfl
      exact ⟨.returned v, w4, hR, (s1.trans hs).trans (one_wide (stepR_round_exit rfl rfl hk hend))⟩
    | goto t => exact hq2.elim
    | panic ch =>
      obtain ⟨hd, hR⟩ := hq2
      obtain ⟨todo, hs⟩ := harr2
      obtain ⟨fn, hfn⟩ := hF
      exact ⟨.panicked ch, w3, hR, (s1.trans hs).trans (one_wide (step_leave_panicked (fr := { b.atR a2 todo with mode := .panicking ch }) ⟨rfl, hd, fn, hfn⟩))⟩
    | outgrown => exact hq2.elim
  | exit id => exact hq.elim
  | goto t => exact hq.elim
  | ret => exact hq.elim
  | panic ch => exact hq.elim
  | outgrown => exact hq.elim

/-- What is asked once the function that is ranged over has ended. -/
def rangeX (P : Program) (l : Nat) (Q : Exit → Act → World → Prop) (a' : Act) : Ending → World → Prop
  | .returned _, w3 => ∃ jump w4, (Instr.endLoop l).run P w3 = .ok jump w4 ∧ (match jump with | none => Q .normal a' w4 | some c => WpX P ⟨none, true⟩ c Q a' w4)
  | .panicked ch, w3 => Q (.panic ch) a' w3
  | .outgrown, _ => False

/-- A range over a function. -/
theorem wpX_rangeFunc {g : Operand} {ps : Array Tmp} {assign body : Code}
    (h : ∀ fn, (∃ f, P.funcs[fn]? = some f) → ∃ (l : Nat) (mark : List Deferred) (w1 : World) (d : Deferred) (w1' : World) (f : FuncId) (args : Array Value) (w2 : World),
      (Instr.enterLoop fn a.tmps ps assign body none).run P w = .ok (l, mark) w1 ∧ (resolve a.eval (rangeCall g l) 0).run P w1 = .ok d w1' ∧ (invoke d.target d.args).run P w1' = .ok (.enter f args) w2 ∧
      Calls P f args w2 (rangeX P l Q { a with defers := mark ++ a.defers })) : WpX P ⟨none, true⟩ (.rangeFunc g ps assign body) Q a w := by
  intro b k cs hro hb
  obtain ⟨l, mark, w1, d, w1', f, args, w2, he, hres, hinv, hcall⟩ := h b.fn (hb rfl)
  have hro : b.roundOf = none := hro
  rw [← hro] at he
  have henter := stepR_rangeFunc (P := P) (b := b) (a := a) (k := k) (cs := cs) (w := w) he hres hinv
  obtain ⟨e, w3, fr, hR, hsteps, hfn, hleave⟩ := hcall (b.atR { a with defers := mark ++ a.defers } (.inRangeFunc l :: k) :: cs)
  cases e with
  | outgrown => exact hR.elim
  | returned v =>
    obtain ⟨jump, w4, hend, hj⟩ := hR
    have sback : StepsIn (Machine.fenced P Fence.wide) P (lone (b.atR a (.code (.rangeFunc g ps assign body) :: k)) cs w) (lone (b.atR { a with defers := mark ++ a.defers } ((jump.map Item.code).toList ++ k)) cs w4) := by
      refine (one_wide henter).trans ((stepsIn_wide.2 hsteps).trans (.head (fenced_wide P _) ?_ (one_wide (stepR_endRangeFunc hend))))
      rw [← finish_atR_inRangeFunc l v]; exact step_leave_returned hleave
    cases jump with
    | none => exact ⟨.normal, _, w4, hj, sback⟩
    | some c =>
      obtain ⟨e', a2, w5, hq, harr⟩ := hj b k cs hro hb
      exact ⟨e', a2, w5, hq, .of_steps sback harr⟩
  | panicked ch =>
    refine ⟨.panic ch, _, w3, hR, .inRangeFunc l :: k, (one_wide henter).trans ((stepsIn_wide.2 hsteps).trans (one_wide ?_))⟩
    rw [← Frame.raise_atR]; exact step_leave_panicked hleave

/-- An operation that is no deferring one, in a round too. -/
theorem wpIn_of_wp {r : Option Nat} {o : Oper} {next : Act → World → Prop} {n : Nat} (hd : ∀ c, o.op ≠ .defer c) (h : o.wp P a w next Q) : o.wpIn (FW r) n P a w next Q := by
  refine ⟨fun _ _ => trivial, ?_⟩
  rw [Oper.semAt_eq _ _ _ hd]
  unfold Oper.wp at h
  revert h
  generalize (execOp a.eval o).run P w = res
  intro h
  cases res with
  | ok nx w' =>
    cases nx <;> first | exact h | exact h.elim | skip
    · exact ⟨fun q => by simp [FW, Fence.wide] at q, callsIn_wide.2 h⟩
    · refine ⟨fun q => by simp [FW, Fence.wide] at q, ?_⟩
      intro c cs hroom
      obtain ⟨v, w2, q1, q2⟩ := h c cs
      exact ⟨v, w2, q1, stepsIn_wide.2 q2⟩
  | halt st w' => cases st <;> first | exact h | exact h.elim
end

/-- Each operation of the model does what its abstract one says, a call of yield too. -/
theorem op_soundIn {P : Program} {ao : AOp} {o : Oper} (hc : chkOp P ao o.op = true) {w0 : Guard} {w : World} {σ : Sig} {h : Heap} {ts : List AV} {a : Act} {K E : Cont} (s : Sim w0 σ h w) (hf : FR σ ts a) (v : vcOp P ts h K E ao)
    {next : Act → World → Prop} {Q : Exit → Act → World → Prop} (hn : ∀ v v' h' w' σ', VR σ' v v' → K v h' → Sim w0 σ' h' w' → σ.Le σ' → next (a.put o.dst v') w')
    (hp : ∀ v v' h' w' σ', VR σ' v v' → E v h' → Sim w0 σ' h' w' → σ.Le σ' → Q (.panic [{ v := v', recovered := false }]) a w') (r : Option Nat) (n : Nat) : o.wpIn (FW r) n P a w next Q := by
  have hd : ∀ c, o.op ≠ .defer c := by
    intro c e; rw [e] at hc; cases ao <;> simp [chkOp] at hc
  by_cases hy : ∃ x args i, ao = .callv x args ∧ ev ts x = .yld i
  · obtain ⟨x, args, i, rfl, e⟩ := hy
    obtain ⟨dst, op, ty, pos, after, guard⟩ := o
    simp only at hc
    cases op <;> first | (simp [chkOp] at hc; done) | skip
    rename_i c
    obtain ⟨callee, args', argTypes⟩ := c
    cases callee <;> first | (simp [chkOp] at hc; done) | skip
    rename_i y
    simp only [chkOp, Bool.and_eq_true] at hc
    have r3 := evs_VRs hf hc.2
    have r1 := ev_VR hf hc.1
    simp only [vcOp, e, forceVs_eq] at v
    rw [e] at r1
    obtain ⟨vf, hvf⟩ : ∃ vf, a.eval y = vf := ⟨_, rfl⟩
    rw [hvf] at r1
    cases r1 with
    | yld _ l hl =>
      obtain ⟨fn, tmps, as, bd, q1, q2⟩ := v.run (n - 1) w0 σ w (args'.map a.eval).toList l s r3 hl
      simp only [Array.toArray_toList] at q1
      refine ⟨fun _ _ => trivial, ?_⟩
      rw [Oper.semAt_eq _ _ _ hd]
      have hrun : (execOp a.eval ⟨dst, .call ⟨.value y, args', argTypes⟩, ty, pos, after, guard⟩).run P w = .ok (.round l.b fn tmps as bd) w := by
        simpa [execOp, resolve, hvf, Deferred.ofValue, invoke] using q1
      rw [hrun]
      refine ⟨fun q => by simp [FW, Fence.wide] at q, ?_⟩
      refine RoundIn.mono (F := Fence.wide) q2 ?_
      rintro e w' ⟨r, h', σ', h1, h2, h3, h4⟩
      cases h1 with
      | ret u u' hu => exact hn u u' h' w' σ' hu h2 h3 h4
      | pan u u' hu => exact hp u u' h' w' σ' hu h2 h3 h4
  · exact wpIn_of_wp hd (op_sound hc s hf v hn hp fun x args i e1 e2 => hy ⟨x, args, i, e1, e2⟩)

end Go.Proofs.YtginchgkbgcimaaDoor.AL
