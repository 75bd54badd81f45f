/- Counters of package sync/atomic, over the abstract states. -/
import Derived.Test.YtginchgkbgcimaaDoorAwalk
import Derived.Laws.LoneSync
namespace Go.Proofs.YtginchgkbgcimaaDoor.AL
open Go Go.RowKit

theorem aext_load {P : Program} {f : FuncId} {fn : Func} (hf : P.funcs[f]? = some fn) (hname : (fn.name == "runtime.NumGoroutine") = false) (hb : fn.body.isNone = true) (hn : Extern.findNext fn = none) {kd : IntKind}
    (he : Extern.find fn = some (Extern.Atomic.loadT (.int kd))) {i k : Nat} {cs : List AV} {op : Option Nat} {n : Int} {h : Heap} {K : Cont} (hi : h[i]? = some (.cells cs op)) (hk : cs[k]? = some (.int kd n)) (q : K (.int kd n) h) :
    AExt P f [.ptr i k] h K := by
  refine ⟨fun w0 σ w vals s hv => ?_⟩
  obtain ⟨l, hl, L⟩ := s.liveAt hi (.of_lt (List.getElem?_eq_some_iff.1 hk).1)
  cases vals with
  | nil => have := hv.len; simp at this
  | cons u us =>
    cases us with
    | cons _ _ => have := hv.len; simp at this
    | nil =>
      have hu := hv.at_ 0 _ u rfl rfl
      cases hu with
      | ptr _ _ l' hl' =>
        rw [hl] at hl'; cases hl'
        obtain ⟨y, hy, hr⟩ := s.cell (.inl hi) hk hl
        cases hr
        exact ⟨_, _, σ, _, h, run_call_load hf hname hb hn kd he hy, .int _ _, q, s, .refl σ⟩

theorem aext_add {P : Program} {f : FuncId} {fn : Func} (hf : P.funcs[f]? = some fn) (hname : (fn.name == "runtime.NumGoroutine") = false) (hb : fn.body.isNone = true) (hn : Extern.findNext fn = none) {kd : IntKind}
    (he : Extern.find fn = some (Extern.Atomic.update (Op.intArith .add) kd true)) {i k : Nat} {cs : List AV} {op : Option Nat} {n d : Int} {h : Heap} {K : Cont} (hi : h[i]? = some (.cells cs op)) (hk : cs[k]? = some (.int kd n))
    (q : wnum kd (n + d) fun r => forceL (cs.set k (.int kd r)) fun cs' => withSet h i (.cells cs' op) fun h' => K (.int kd r) h') : AExt P f [.ptr i k, .int kd d] h K := by
  refine ⟨fun w0 σ w vals s hv => ?_⟩
  obtain ⟨l, hl, L⟩ := s.liveAt hi (.of_lt (List.getElem?_eq_some_iff.1 hk).1)
  have q := q.out
  rw [forceL_eq] at q
  have q := withSet_elim q
  have hlen := hv.len
  match vals, hlen with
  | [u, v], _ =>
    have hu := hv.at_ 0 _ u rfl rfl
    have hv := hv.at_ 1 _ v rfl rfl
    cases hv
    cases hu with
    | ptr _ _ l' hl' =>
      rw [hl] at hl'; cases hl'
      obtain ⟨y, hy, hr⟩ := s.cell (.inl hi) hk hl
      cases hr
      exact ⟨_, _, σ, _, _, run_call_add hf hname hb hn kd he hy (s.free hi (.of_lt (List.getElem?_eq_some_iff.1 hk).1) hl _) rfl, .int _ _, q, s.store hi (List.getElem?_eq_some_iff.1 hk).1 hl (.int _ _), .refl σ⟩

theorem aext_store {P : Program} {f : FuncId} {fn : Func} (hf : P.funcs[f]? = some fn) (hname : (fn.name == "runtime.NumGoroutine") = false) (hb : fn.body.isNone = true) (hn : Extern.findNext fn = none) {kd : IntKind}
    (he : Extern.find fn = some Extern.Atomic.storeT) {i k : Nat} {cs : List AV} {op : Option Nat} {n d : Int} {h : Heap} {K : Cont} (hi : h[i]? = some (.cells cs op)) (hk : cs[k]? = some (.int kd n))
    (q : forceL (cs.set k (.int kd d)) fun cs' => withSet h i (.cells cs' op) fun h' => K (.tup []) h') : AExt P f [.ptr i k, .int kd d] h K := by
  refine ⟨fun w0 σ w vals s hv => ?_⟩
  obtain ⟨l, hl, L⟩ := s.liveAt hi (.of_lt (List.getElem?_eq_some_iff.1 hk).1)
  rw [forceL_eq] at q
  have q := withSet_elim q
  have hlen := hv.len
  match vals, hlen with
  | [u, v], _ =>
    have hu := hv.at_ 0 _ u rfl rfl
    have hv := hv.at_ 1 _ v rfl rfl
    cases hv
    cases hu with
    | ptr _ _ l' hl' =>
      rw [hl] at hl'; cases hl'
      obtain ⟨y, hy, hr⟩ := s.cell (.inl hi) hk hl
      cases hr
      exact ⟨_, _, σ, _, _, run_call_store hf hname hb hn he hy (s.free hi (.of_lt (List.getElem?_eq_some_iff.1 hk).1) hl _), .tup [] #[] rfl (by intro j x y h; simp at h), q, s.store hi (List.getElem?_eq_some_iff.1 hk).1 hl (.int _ _), .refl σ⟩

/-- A function that hands its argument back. -/
theorem aext_same {P : Program} {f : FuncId} {fn : Func} (hf : P.funcs[f]? = some fn) (hname : (fn.name == "runtime.NumGoroutine") = false) (hb : fn.body.isNone = true) (hn : Extern.findNext fn = none)
    (he : Extern.find fn = some Extern.AbiNoEscape.same) {x : AV} {h : Heap} {K : Cont} (q : K x h) : AExt P f [x] h K := by
  refine ⟨fun w0 σ w vals s hv => ?_⟩
  cases vals with
  | nil => have := hv.len; simp at this
  | cons u us =>
    cases us with
    | cons _ _ => have := hv.len; simp at this
    | nil =>
      have hu := hv.at_ 0 _ u rfl rfl
      refine ⟨u, w, σ, x, h, ?_, hu, q, s, .refl σ⟩
      rw [run_callFunc_extern hf hname hb hn he]
      rfl

end Go.Proofs.YtginchgkbgcimaaDoor.AL
