/- Each operation of the model does what its abstract one says. -/
import Derived.Test.YtginchgkbgcimaaDoorAop
namespace Go.Proofs.YtginchgkbgcimaaDoor.AL
open Go Go.RowKit

theorem chkOpt_VR {σ : Sig} {ts : List AV} {a : Act} (hf : FR σ ts a) {x : Option Opd} {o : Option Operand} (h : chkOpt x o = true) :
    (∀ y, x.map (ev ts) = some y → ∃ b, o.map a.eval = some b ∧ VR σ y b) ∧ (x.map (ev ts) = none → o.map a.eval = none) := by
  unfold chkOpt at h
  split at h
  · exact ⟨by intro y q; simp at q, fun _ => rfl⟩
  · refine ⟨?_, by intro q; simp at q⟩
    intro y q; simp at q; subst q
    exact ⟨_, rfl, ev_VR hf h⟩
  · simp at h

theorem call_run {P : Program} {f : FuncId} (h : hasBody P f = true) (args : Array Value) (w : World) : (callFunc f args).run P w = .ok (.enter f args) w := by
  unfold hasBody at h
  cases hf : P.funcs[f]? with
  | none => simp [hf] at h
  | some fn =>
    simp only [hf, Bool.and_eq_true, bne_iff_ne, ne_eq] at h
    have h3 : ¬ fn.body = none := by cases hb : fn.body <;> simp [hb] at h ⊢
    simp [callFunc, hf, h.2, h3]

theorem op_sound {P : Program} {ao : AOp} {o : Oper} (hc : chkOp P ao o.op = true) {w0 : Guard} {w : World} {σ : Sig} {h : Heap} {ts : List AV} {a : Act} {K E : Cont} (s : Sim w0 σ h w) (hf : FR σ ts a) (v : vcOp P ts h K E ao)
    {next : Act → World → Prop} {Q : Exit → Act → World → Prop} (hn : ∀ v v' h' w' σ', VR σ' v v' → K v h' → Sim w0 σ' h' w' → σ.Le σ' → next (a.put o.dst v') w')
    (hp : ∀ v v' h' w' σ', VR σ' v v' → E v h' → Sim w0 σ' h' w' → σ.Le σ' → Q (.panic [{ v := v', recovered := false }]) a w') (hny : ∀ x args i, ao = .callv x args → ev ts x ≠ .yld i) : o.wp P a w next Q := by
  obtain ⟨dst, op, ty, pos, after, guard⟩ := o
  simp only at hc
  unfold chkOp at hc
  split at hc
  · exact Good.upon (S := pure (a.eval _)) rfl (Good.same s (ev_VR hf hc) v) hn
  · exact Good.upon (S := pure (a.eval _)) rfl (Good.same s (ev_VR hf hc) v) hn
  · -- pick
    simp only [Bool.and_eq_true] at hc
    obtain ⟨⟨h1, h2⟩, h3⟩ := hc
    rename_i c x y c' x' y'
    have hcr := ev_VR hf h1
    simp only [vcOp] at v
    split at v
    rotate_left
    · exact v.elim
    rename_i q e
    cases q
    rotate_left
    · rw [e] at hcr
      have hce : a.eval c' = .bool true := by generalize a.eval c' = vc at hcr; cases hcr; rfl
      refine Good.upon (S := pure (a.eval x')) ?_ (Good.same s (ev_VR hf h2) v) hn
      simp only [execOp, hce, asBool, pure_bind, if_true]
    · rw [e] at hcr
      have hce : a.eval c' = .bool false := by generalize a.eval c' = vc at hcr; cases hcr; rfl
      refine Good.upon (S := pure (a.eval y')) ?_ (Good.same s (ev_VR hf h3) v) hn
      simp only [execOp, hce, asBool, pure_bind, Bool.false_eq_true, if_false]
  · exact Good.upon rfl (vcAlloc_sound s hc v) hn
  · exact Good.upon rfl (vcBox_sound s (ev_VR hf hc) v) hn
  · exact Good.upon rfl (vcBuild_sound s hf hc v) hn
  · simp only [Bool.and_eq_true, beq_iff_eq] at hc
    obtain ⟨rfl, hc⟩ := hc
    exact Good.upon rfl (vcBSlice_sound s hf hc v) hn
  · simp only [Bool.and_eq_true] at hc
    exact Good.upon rfl (vcLoad_sound s hc.1 (ev_VR hf hc.2) v) hn
  · simp only [Bool.and_eq_true] at hc
    obtain ⟨⟨h1, h2⟩, h3⟩ := hc
    obtain ⟨w', h', hr, hk, hs⟩ := vcStore_sound (P := P) s h1 (ev_VR hf h2) (ev_VR hf h3) v
    unfold Oper.wp
    simp only [execOp, Sem.run_bind, hr, Result.andThen_ok, Sem.run_pure]
    exact hn .wild undef h' w' σ (.wild _) hk hs (.refl σ)
  · -- nilCheck
    have hr := ev_VR hf hc
    rename_i x y
    simp only [vcOp] at v
    split at v
    · rename_i e; rw [e] at hr
      refine Good.upon (S := pure (a.eval y)) ?_ (Good.same s hr v) hn
      simp only [execOp]
      generalize a.eval y = vy at hr
      cases hr; rfl
    · rename_i e; rw [e] at hr
      refine Good.upon (S := pure (a.eval y)) ?_ (Good.same s hr v) hn
      simp only [execOp]
      generalize a.eval y = vy at hr
      cases hr; rfl
    · rename_i e; rw [e] at hr
      refine Good.upon (S := pure (a.eval y)) ?_ (Good.same s hr v) hn
      simp only [execOp]
      generalize a.eval y = vy at hr
      cases hr; rfl
    · exact v.elim
  · simp only [Bool.and_eq_true, decide_eq_true_eq] at hc
    obtain ⟨⟨rfl, h2⟩, h3⟩ := hc
    exact Good.upon rfl (vcBin_sound s _ _ _ (ev_VR hf h2) (ev_VR hf h3) v) hn
  · simp only [Bool.and_eq_true, decide_eq_true_eq] at hc
    obtain ⟨⟨⟨rfl, h1⟩, h2⟩, h3⟩ := hc
    exact Good.upon rfl (vcEq_sound s h1 (by intro c e; rw [e]; rfl) (ev_VR hf h2) (ev_VR hf h3) v) hn
  · have hr := ev_VR hf hc
    rename_i x y
    simp only [vcOp] at v
    split at v
    · rename_i b e; rw [e] at hr
      have hce : a.eval y = .bool b := by generalize a.eval y = vc at hr; cases hr; rfl
      exact Good.upon (S := Op.unary .not (a.eval y)) rfl (by rw [hce]; exact Good.same s (.bool _) v) hn
    · exact v.elim
  · have hr := ev_VR hf hc
    rename_i x y
    simp only [vcOp] at v
    split at v
    · rename_i k n e; rw [e] at hr
      have hce : a.eval y = .int k n := by generalize a.eval y = vc at hr; cases hr; rfl
      exact Good.upon (S := Op.unary .neg (a.eval y)) rfl (by rw [hce]; exact Good.same s (.int _ _) v.out) hn
    · exact v.elim
  · -- conv
    rename_i k x src dst y
    simp only [Bool.and_eq_true] at hc
    obtain ⟨⟨h1, h2⟩, h3⟩ := hc
    have hr := ev_VR hf h3
    split at h2
    · rename_i k' hd
      simp at h2; subst h2
      simp only [vcOp] at v
      split at v
      · rename_i k2 n e; rw [e] at hr
        have hce : a.eval y = .int k2 n := by generalize a.eval y = vc at hr; cases hr; rfl
        obtain ⟨d, hd'⟩ := Option.isSome_iff_exists.1 h1
        refine Good.upon (S := convert src dst (a.eval y)) rfl ?_ hn
        rw [hce]
        have : (convert src dst (.int k2 n)).run P w = .ok (.int k (k.wrap n)) w := by simp [convert, run_underlying hd', run_underlying hd, Conv.intToInt]
        rw [this]
        exact Good.same s (.int _ _) v.out
      · exact v.elim
    · simp at h2
  · rename_i x src dst y
    simp only [Bool.and_eq_true] at hc
    obtain ⟨⟨h1, h2⟩, h3⟩ := hc
    have hr := ev_VR hf h3
    split at h2
    · rename_i hd
      simp only [vcOp] at v
      split at v
      · rename_i b e; rw [e] at hr
        have hce : a.eval y = .string b := by generalize a.eval y = vc at hr; cases hr; rfl
        obtain ⟨d, hd'⟩ := Option.isSome_iff_exists.1 h1
        refine Good.upon (S := convert src dst (a.eval y)) rfl ?_ hn
        rw [hce]
        have : (convert src dst (.string b)).run P w = .ok (.string b) w := by simp [convert, run_underlying hd', run_underlying hd]
        rw [this]
        exact Good.same s (.str _) v
      · exact v.elim
    · simp at h2
  · -- makeInterface
    rename_i t x t' y
    simp only [Bool.and_eq_true, beq_iff_eq] at hc
    obtain ⟨⟨rfl, h2⟩, h3⟩ := hc
    refine Good.upon (S := Instr.makeInterface t (a.eval y)) rfl ?_ hn
    have : (Instr.makeInterface t (a.eval y)).run P w = .ok (.iface t (a.eval y)) w := by
      split at h2
      · simp at h2
      · simp at h2
      · rename_i h4 h5
        cases hu : P.underlying t with
        | none => exact absurd hu h5
        | some d =>
          simp only [Instr.makeInterface, Sem.run_bind, run_underlying hu, Result.andThen_ok]
          cases d <;> first | rfl | exact absurd hu (h4 _)
    rw [this]
    exact Good.same s (.iface _ _ _ (ev_VR hf h3)) v
  · simp only [Bool.and_eq_true, decide_eq_true_eq] at hc
    obtain ⟨⟨rfl, h2⟩, h3⟩ := hc
    have r2 := evs_VRs hf h2
    have r3 := evs_VRs hf h3
    simp only [vcOp, forceVs_eq] at v
    refine Good.upon (S := Instr.makeFunc _ _ _) rfl ?_ hn
    exact Good.same s (.fn _ _ _ _ _ (by simpa using r2.len) (fun j x y p q => r2.at_ j x y p (by simpa using q)) (by simpa using r3.len) (fun j x y p q => r3.at_ j x y p (by simpa using q))) v
  · simp only [Bool.and_eq_true] at hc
    exact Good.upon rfl (vcMake_sound s hc.1.1 (ev_VR hf hc.1.2) (ev_VR hf hc.2) v) hn
  · simp only [Bool.and_eq_true] at hc
    obtain ⟨⟨⟨⟨⟨h1, h2⟩, h3⟩, h4⟩, h5⟩, h6⟩ := hc
    have e3 := chkOpt_VR hf h3
    have e4 := chkOpt_VR hf h4
    have e5 := chkOpt_VR hf h5
    refine Good.upon rfl (vcSlc_sound s h1 (ev_VR hf h2) e3.1 e3.2 e4.1 e4.2 e5.1 e5.2 ?_ v) hn
    intro q
    simp only [Option.isSome_map] at q ⊢
    rw [q] at h6; simpa using h6
  · simp only [Bool.and_eq_true] at hc
    exact Good.upon rfl (vcFld_sound s hc.1 (ev_VR hf hc.2) v) hn
  · simp only [Bool.and_eq_true] at hc
    exact Good.upon rfl (vcFldv_sound s hc.1 (ev_VR hf hc.2) v) hn
  · simp only [Bool.and_eq_true] at hc
    exact Good.upon rfl (vcIdx_sound s hc.1.1 (ev_VR hf hc.1.2) (ev_VR hf hc.2) v) hn
  · simp only [Bool.and_eq_true] at hc
    exact Good.upon rfl (vcIdxA_sound s hc.1.1 (ev_VR hf hc.1.2) (ev_VR hf hc.2) v) hn
  · simp only [Bool.and_eq_true, beq_iff_eq] at hc
    obtain ⟨rfl, hc⟩ := hc
    exact Good.upon rfl (vcExt_sound s (ev_VR hf hc) v) hn
  · -- len
    rename_i str x args argTypes
    split at hc
    · rename_i y t hargs ht
      have hargs' : args = #[y] := by cases args; simp at hargs; simp [hargs]
      subst hargs'
      simp only [Bool.and_eq_true] at hc
      obtain ⟨h1, h2⟩ := hc
      have hr := ev_VR hf h1
      refine Good.upon (S := Builtin.len_ argTypes ty #[a.eval y]) (by simp [execOp, resolve, invoke, builtin]) ?_ hn
      simp only [vcOp] at v
      split at v
      · rename_i e; rw [e] at hr
        split at h2
        · rename_i hu _
          generalize a.eval y = vy at hr
          cases hr
          simp [Builtin.len_, ht, run_underlying hu]
          exact Good.same s (.int _ _) v
        · contradiction
        · simp at h2
      · rename_i e; rw [e] at hr
        split at h2
        · contradiction
        · rename_i hu _
          generalize a.eval y = vy at hr
          cases hr <;> simp [Builtin.len_, ht, run_underlying hu] <;> exact Good.same s (.int _ _) v
        · simp at h2
      · rename_i e; rw [e] at hr
        split at h2
        · contradiction
        · rename_i hu _
          generalize a.eval y = vy at hr
          cases hr <;> simp [Builtin.len_, ht, run_underlying hu] <;> exact Good.same s (.int _ _) v
        · simp at h2
      · rename_i e; rw [e] at hr
        split at h2
        · contradiction
        · rename_i hu _
          generalize a.eval y = vy at hr
          cases hr
          simp [Builtin.len_, ht, run_underlying hu]
          exact Good.same s (.int _ _) v
        · simp at h2
      · exact v.elim
    · simp at hc
  · rename_i n x args argTypes
    split at hc
    · rename_i y t hargs ht
      have hargs' : args = #[y] := by cases args; simp at hargs; simp [hargs]
      subst hargs'
      simp only [Bool.and_eq_true] at hc
      obtain ⟨h1, h2⟩ := hc
      split at h2
      · rename_i m e hu
        simp at h2; subst h2
        refine Good.upon (S := Builtin.len_ argTypes ty #[a.eval y]) (by simp [execOp, resolve, invoke, builtin]) ?_ hn
        simp [Builtin.len_, ht, run_underlying hu]
        exact Good.same s (.int _ _) v
      · simp at h2
    · simp at hc
  · rename_i x y size bytes args argTypes
    split at hc
    · rename_i x' y' hargs
      have hargs' : args = #[x', y'] := by cases args; simp at hargs; simp [hargs]
      subst hargs'
      simp only [Bool.and_eq_true] at hc
      exact Good.upon (S := Builtin.append_ argTypes ty #[a.eval x', a.eval y']) (by simp [execOp, resolve, invoke, builtin]) (vcApp_sound s hc.1.1 (ev_VR hf hc.1.2) (ev_VR hf hc.2) v) hn
    · simp at hc
  · rename_i x y size args argTypes
    split at hc
    · rename_i x' y' hargs
      have hargs' : args = #[x', y'] := by cases args; simp at hargs; simp [hargs]
      subst hargs'
      simp only [Bool.and_eq_true] at hc
      exact Good.upon (S := Builtin.copy_ argTypes ty #[a.eval x', a.eval y']) (by simp [execOp, resolve, invoke, builtin]) (vcCopy_sound s hc.1.1 (ev_VR hf hc.1.2) (ev_VR hf hc.2) v) hn
    · simp at hc
  · rename_i x y args argTypes
    split at hc
    · rename_i x' y' hargs
      have hargs' : args = #[x', y'] := by cases args; simp at hargs; simp [hargs]
      subst hargs'
      simp only [Bool.and_eq_true] at hc
      have r1 := ev_VR hf hc.1
      have r2 := ev_VR hf hc.2
      refine Good.upon (S := Builtin.max_ argTypes ty #[a.eval x', a.eval y']) (by simp [execOp, resolve, invoke, builtin]) ?_ hn
      simp only [vcOp] at v
      split at v
      · rename_i e1 e2; rw [e1] at r1; rw [e2] at r2
        generalize a.eval x' = vx at r1
        generalize a.eval y' = vy at r2
        cases r1; cases r2
        rename_i k1 a1 k2 b1
        have e : max a1 b1 = if a1 < b1 then b1 else a1 := by split <;> omega
        rw [e] at v
        simp [Builtin.max_, Builtin.max2]
        exact Good.same s (.int _ _) v
      · exact v.elim
    · simp at hc
  · rename_i x y args argTypes
    split at hc
    · rename_i x' y' hargs
      have hargs' : args = #[x', y'] := by cases args; simp at hargs; simp [hargs]
      subst hargs'
      simp only [Bool.and_eq_true] at hc
      have r1 := ev_VR hf hc.1
      have r2 := ev_VR hf hc.2
      refine Good.upon (S := Builtin.min_ argTypes ty #[a.eval x', a.eval y']) (by simp [execOp, resolve, invoke, builtin]) ?_ hn
      simp only [vcOp] at v
      split at v
      · rename_i e1 e2; rw [e1] at r1; rw [e2] at r2
        generalize a.eval x' = vx at r1
        generalize a.eval y' = vy at r2
        cases r1; cases r2
        rename_i k1 a1 k2 b1
        have e : min a1 b1 = if b1 < a1 then b1 else a1 := by split <;> omega
        rw [e] at v
        simp [Builtin.min_, Builtin.min2]
        exact Good.same s (.int _ _) v
      · exact v.elim
    · simp at hc
  · -- a call of a function known by its number
    rename_i f args g args' argTypes
    simp only [Bool.and_eq_true, beq_iff_eq] at hc
    obtain ⟨⟨rfl, hb⟩, h3⟩ := hc
    have r3 := evs_VRs hf h3
    have hrun : (execOp a.eval ⟨dst, .call ⟨.value (.func f), args', argTypes⟩, ty, pos, after, guard⟩).run P w = .ok (.enter f (args'.map a.eval)) w := by
      have := call_run (P := P) hb (args'.map a.eval) w
      simpa [execOp, resolve, Act.eval, Deferred.ofValue, invoke] using this
    simp only [vcOp, forceVs_eq] at v
    unfold Oper.wp
    rw [hrun]
    have c := v.run w0 σ w (args'.map a.eval).toList s r3
    simp only [Array.toArray_toList] at c
    refine c.mono ?_
    rintro e w' ⟨r, h', σ', h1, h2, h3, h4⟩
    cases h1 with
    | ret u u' hu => exact hn u u' h' w' σ' hu h2 h3 h4
    | pan u u' hu => exact hp u u' h' w' σ' hu h2 h3 h4
  · -- a call of a function value
    rename_i x args y args' argTypes
    simp only [Bool.and_eq_true] at hc
    have r3 := evs_VRs hf hc.2
    have r1 := ev_VR hf hc.1
    simp only [vcOp] at v
    split at v
    · rename_i f first captured e
      rw [e] at r1
      obtain ⟨hb, v⟩ := v
      rw [forceVs_eq] at v
      obtain ⟨vf, hvf⟩ : ∃ vf, a.eval y = vf := ⟨_, rfl⟩
      rw [hvf] at r1
      cases r1 with
      | fn _ _ _ as' cs' hl hh hl' hh' =>
        have hrun : (execOp a.eval ⟨dst, .call ⟨.value y, args', argTypes⟩, ty, pos, after, guard⟩).run P w = .ok (.enter f (as' ++ args'.map a.eval ++ cs')) w := by
          have := call_run (P := P) hb (as' ++ args'.map a.eval ++ cs') w
          simpa [execOp, resolve, hvf, Deferred.ofValue, invoke] using this
        unfold Oper.wp
        rw [hrun]
        have rr : VRs σ (first ++ args.map (ev ts) ++ captured) (as' ++ args'.map a.eval ++ cs').toList := by
          rw [Array.toList_append, Array.toList_append]
          refine VRs.append (VRs.append ⟨by simpa using hl, fun j x y p q => hh j x y p (by simpa using q)⟩ r3) ⟨by simpa using hl', fun j x y p q => hh' j x y p (by simpa using q)⟩
        have c := v.run w0 σ w _ s rr
        simp only [Array.toArray_toList] at c
        refine c.mono ?_
        rintro e w' ⟨r, h', σ', h1, h2, h3, h4⟩
        cases h1 with
        | ret u u' hu => exact hn u u' h' w' σ' hu h2 h3 h4
        | pan u u' hu => exact hp u u' h' w' σ' hu h2 h3 h4
    · rename_i e; exact absurd e (hny _ _ _ rfl)
    · exact v.elim
  · -- clear
    rename_i x zs args argTypes
    split at hc
    · rename_i y hargs
      have hargs' : args = #[y] := by cases args; simp at hargs; simp [hargs]
      subst hargs'
      simp only [Bool.and_eq_true] at hc
      exact Good.upon (S := Builtin.clear_ argTypes ty #[a.eval y]) (by simp [execOp, resolve, invoke, builtin]) (vcClr_sound s hc.1 (ev_VR hf hc.2) v) hn
    · simp at hc
  · -- a text of bytes
    rename_i x src dst' y
    simp only [Bool.and_eq_true] at hc
    obtain ⟨⟨h1, h2⟩, h3⟩ := hc
    split at h1
    · rename_i e hs
      split at h1
      · rename_i he
        split at h2
        · rename_i hd
          exact Good.upon rfl (vcB2s_sound s hs he hd (ev_VR hf h3) v) hn
        · simp at h2
      · simp at h1
    · simp at h1
  · -- a function of the model's own
    rename_i f args g args' argTypes
    simp only [Bool.and_eq_true, beq_iff_eq] at hc
    obtain ⟨rfl, h3⟩ := hc
    have r3 := evs_VRs hf h3
    simp only [vcOp, forceVs_eq] at v
    obtain ⟨v', w', σ', u, h', q1, q2, q3, q4, q5⟩ := v.run w0 σ w (args'.map a.eval).toList s r3
    simp only [Array.toArray_toList] at q1
    have hrun : (execOp a.eval ⟨dst, .call ⟨.value (.func f), args', argTypes⟩, ty, pos, after, guard⟩).run P w = .ok (.value v') w' := by
      simpa [execOp, resolve, Act.eval, Deferred.ofValue, invoke] using q1
    unfold Oper.wp
    rw [hrun]
    exact hn u v' h' w' σ' q2 q3 q4 q5
  · -- panic
    rename_i x y
    have hr := ev_VR hf hc
    simp only [vcOp] at v
    split at v
    · rename_i t z e
      rw [e] at hr
      unfold Oper.wp
      generalize hy : a.eval y = vy at hr
      cases hr with
      | iface _ _ u hu =>
        have hrun : (execOp a.eval ⟨dst, .panic y, ty, pos, after, guard⟩).run P w = .halt (.panic (.iface t u)) w := by
          have hpn : (Instr.panic (.iface t u)).run P w = .halt (.panic (.iface t u)) w := rfl
          simp [execOp, hy, hpn]
        rw [hrun]
        exact hp _ _ h w σ (.iface _ _ _ hu) v s (.refl σ)
    · exact v.elim
  · -- typeAssert
    rename_i t zs x y xt t'
    simp only [Bool.and_eq_true, beq_iff_eq] at hc
    obtain ⟨⟨⟨⟨rfl, h1⟩, h2⟩, h3⟩, h4⟩ := hc
    have hr := ev_VR hf h4
    obtain ⟨z, hz, hzs⟩ := chkZero_spec h3 w σ
    have hza : VR σ (.agg zs) z := by
      have hz' := hz
      simp only [zeroValue, typeInfo, Sem.run_bind, run_program, Result.andThen_ok] at hz'
      split at h2
      · rename_i ds hd
        cases hi : P.info? t with
        | none => rw [hi] at hd; simp at hd
        | some i =>
          rw [hi] at hd hz'
          simp only [Option.bind_some] at hd
          simp [hd] at hz'
          subst hz'
          exact .agg zs ds (by simpa [Value.cells] using hzs.len) (fun j p q a b => hzs.at_ j p q a (by simpa [Value.cells] using b))
      · simp at h2
    obtain ⟨d, hd⟩ : ∃ d, P.underlying t = some d := by
      cases hu : P.underlying t with
      | none => simp [hu] at h1
      | some d => exact ⟨d, rfl⟩
    have hni : ∀ m, d ≠ .interface m := by
      intro m e; subst e; simp [hd] at h1
    have hrun : ∀ vx : Value, (Instr.typeAssert vx xt t true).run P w = (match vx with
        | .nilIface => .ok (.tuple #[z, .bool false]) w
        | .iface t1 u => if t1 = t then .ok (.tuple #[u, .bool true]) w else .ok (.tuple #[z, .bool false]) w
        | _ => (Instr.typeAssert vx xt t true).run P w) := by
      intro vx
      cases vx <;> first | rfl | skip
      all_goals
        simp only [Instr.typeAssert, Sem.run_bind, run_underlying hd, Result.andThen_ok]
        cases d <;> first | exact absurd rfl (hni _) | skip
        all_goals simp [hz]
        all_goals (split <;> simp [hz])
    have tup : ∀ {p : AV} {q : Value} (b : Bool), VR σ p q → VR σ (.tup [p, .bool b]) (.tuple #[q, .bool b]) := fun b h => .tup _ _ rfl (by
      intro j p' q' ha hb
      match j with
      | 0 => simp at ha hb; subst ha; subst hb; exact h
      | 1 => simp at ha hb; subst ha; subst hb; exact .bool b
      | j + 2 => simp at ha)
    refine Good.upon (S := Instr.typeAssert (a.eval y) xt t true) rfl ?_ hn
    rw [hrun]
    simp only [vcOp] at v
    split at v
    · rename_i e; rw [e] at hr
      generalize a.eval y = vy at hr
      cases hr
      exact Good.same s (tup false hza) v
    · rename_i t1 p e; rw [e] at hr
      generalize a.eval y = vy at hr
      cases hr with
      | iface _ _ u hu =>
        simp only []
        by_cases q : t1 = t
        · rw [if_pos q]
          rw [show (t1 == t) = true by simpa using q] at v
          exact Good.same s (tup true hu) v
        · rw [if_neg q]
          rw [show (t1 == t) = false by simpa using q] at v
          exact Good.same s (tup false hza) v
    · exact v.elim
  · simp only [Bool.and_eq_true, beq_iff_eq] at hc
    obtain ⟨rfl, hc⟩ := hc
    exact Good.upon rfl (vcAllocT_sound s hc v) hn
  · rename_i x y size bytes code args argTypes
    split at hc
    · rename_i x' y' hargs
      have hargs' : args = #[x', y'] := by cases args; simp at hargs; simp [hargs]
      subst hargs'
      simp only [Bool.and_eq_true] at hc
      exact Good.upon (S := Builtin.append_ argTypes ty #[a.eval x', a.eval y']) (by simp [execOp, resolve, invoke, builtin]) (vcApp_sound s hc.1.1 (ev_VR hf hc.1.2) (ev_VR hf hc.2) v) hn
    · simp at hc
  · simp only [Bool.and_eq_true] at hc
    exact Good.upon rfl (vcIdxv_sound s hc.1.1 (ev_VR hf hc.1.2) (ev_VR hf hc.2) v) hn
  · simp only [Bool.and_eq_true] at hc
    exact Good.upon rfl (vcIdxs_sound s hc.1.1 (ev_VR hf hc.1.2) (ev_VR hf hc.2) v) hn
  · simp only [Bool.and_eq_true] at hc
    obtain ⟨⟨⟨h1, h2⟩, h3⟩, h4⟩ := hc
    have e3 := chkOpt_VR hf h3
    have e4 := chkOpt_VR hf h4
    exact Good.upon rfl (vcScut_sound s h1 (ev_VR hf h2) e3.1 e3.2 e4.1 e4.2 v) hn
  · rename_i x args argTypes
    split at hc
    · rename_i x' hargs
      have hargs' : args = #[x'] := by cases args; simp at hargs; simp [hargs]
      subst hargs'
      exact Good.upon (S := Builtin.unsafeSliceData_ argTypes ty #[a.eval x']) (by simp [execOp, resolve, invoke, builtin]) (vcSdata_sound s (ev_VR hf hc) v) hn
    · simp at hc
  · rename_i e x n args argTypes
    split at hc
    · rename_i x' n' hargs
      have hargs' : args = #[x', n'] := by cases args; simp at hargs; simp [hargs]
      subst hargs'
      simp only [Bool.and_eq_true] at hc
      exact Good.upon (S := Builtin.unsafeString_ argTypes ty #[a.eval x', a.eval n']) (by simp [execOp, resolve, invoke, builtin]) (vcUstr_sound s hc.1.1 (ev_VR hf hc.1.2) (ev_VR hf hc.2) v) hn
    · simp at hc
  · simp only [Bool.and_eq_true] at hc
    exact Good.upon rfl (vcTun_sound s hc.1 (ev_VR hf hc.2) v) hn
  · simp only [Bool.and_eq_true] at hc
    exact Good.upon rfl (vcFun_sound s hc.1 (ev_VR hf hc.2) v) hn
  · simp only [Bool.and_eq_true, decide_eq_true_eq] at hc
    obtain ⟨⟨⟨rfl, h1⟩, h2⟩, h3⟩ := hc
    exact Good.upon rfl (vcEqp_sound s h1 (ev_VR hf h2) (ev_VR hf h3) v) hn
  · exact v.elim
  · simp at hc

end Go.Proofs.YtginchgkbgcimaaDoor.AL
