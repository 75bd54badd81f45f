/- Contracts of the library, as the kit's shelf states them, over the abstract states. -/
import Derived.Test.YtginchgkbgcimaaDoorAwalk
import Derived.Deep.Draws
namespace Go.Proofs.YtginchgkbgcimaaDoor.AL
open Go Go.RowKit

/-- The world grows: what was related stays so. -/
theorem Sim.grown {w0 : Guard} {w w' : World} {σ : Sig} {h : Heap} (s : Sim w0 σ h w) (b : Below w.heap.size w w') : Sim w0 σ h w' := by
  have keep : ∀ (k : Nat) x, w.heap[k]? = some x → w'.heap[k]? = some x := by
    intro k x hk
    rw [b.block k (Array.getElem?_eq_some_iff.1 hk).1]; exact hk
  refine ⟨⟨b.os.trans s.below.os, b.tape.trans s.below.tape, b.output.trans s.below.output, Nat.le_trans s.below.size b.size, fun k hk => ⟨(s.below.block k hk).1, ?_⟩⟩, s.dom, s.dom', ?_, ?_, s.apart, s.frz, s.hide,
    s.ex.step (.refl σ) (fun k o hk _ => keep k o hk) (fun _ _ _ _ _ a b => ⟨a, b⟩) (fun _ a => a), s.vac⟩
  · have h1 := s.below.block k hk
    rw [b.block k (by have := s.below.size; omega)]; exact h1.2
  · intro b' c hb
    obtain ⟨e, fr, hh⟩ := s.fro b' c hb
    exact ⟨e, fr, keep _ _ hh⟩
  · intro i cs op l hi hq hl
    have M := s.live i cs op l hi hq hl
    obtain ⟨c, e, hb, hs, hr⟩ := M.blk
    exact ⟨M.base, M.nofro, M.n, M.opn, M.room, c, e, keep _ _ hb, hs, hr⟩

theorem below_drewN (w : World) (n : Nat) : Below w.heap.size w (w.drewN n) := ⟨rfl, rfl, rfl, Nat.le_refl _, fun _ _ => rfl⟩
theorem below_allocNew (w : World) (o : Obj) : Below w.heap.size w (w.alloc o) := ⟨rfl, rfl, rfl, by simp, fun k hk => Below.heap_alloc _ _ _ hk⟩

/-- A value without references. -/
def flatV : AV → Option Value
  | .int k n => some (.int k n)
  | .str s => some (.string s)
  | .bool b => some (.bool b)
  | _ => none
theorem flatV_VR {σ : Sig} {x : AV} {v u : Value} (h : flatV x = some v) (r : VR σ x u) : u = v := by
  cases r <;> simp [flatV] at h <;> exact h
theorem flatVs_VR {σ : Sig} : ∀ {args : List AV} {vals us : List Value}, args.map flatV = vals.map some → VRs σ args us → us = vals
  | [], vals, us, h, r => by
    cases vals with
    | cons _ _ => simp at h
    | nil => cases us with
      | nil => rfl
      | cons _ _ => have := r.len; simp at this
  | x :: args, vals, us, h, r => by
    cases vals with
    | nil => simp at h
    | cons v vals => cases us with
      | nil => have := r.len; simp at this
      | cons u us =>
        simp only [List.map_cons, List.cons.injEq] at h
        have r' : VRs σ args us := ⟨by have := r.len; simpa using this, fun j a b p q => r.at_ (j + 1) a b (by simpa using p) (by simpa using q)⟩
        have e1 := flatV_VR h.1 (r.at_ 0 x u rfl rfl)
        have e2 := flatVs_VR h.2 r'
        rw [e1, e2]
theorem flatV_cl {x : AV} {v : Value} (h : flatV x = some v) : IdLt 0 x := by cases x <;> simp [flatV] at h <;> simp
theorem flatVs_cl {args : List AV} {vals : List Value} (h : args.map flatV = vals.map some) : ∀ x ∈ args, IdLt 0 x := by
  intro x hx
  obtain ⟨i, hi, rfl⟩ := List.mem_iff_getElem.1 hx
  have := congrArg (fun l => l[i]?) h
  simp only [List.getElem?_map, List.getElem?_eq_getElem hi, Option.map_some] at this
  cases hv : vals[i]? with
  | none => rw [hv] at this; simp at this
  | some v => rw [hv] at this; simp only [Option.map_some, Option.some.injEq] at this; exact flatV_cl this

/-- A function of the library that answers flat values. -/
theorem pure_lib {P : Program} {f : FuncId} {args : List AV} {vals : List Value} {v : AV} {u : Value} (ha : args.map flatV = vals.map some) (hv : ∀ σ, VR σ v u)
    (hc : ∀ w, Shp w → Calls P f vals.toArray w fun e w' => e = .returned u ∧ Below w.heap.size w w') : Pure P f args v := by
  refine ⟨⟨fun w0 σ w us s hr => ?_⟩, flatVs_cl ha⟩
  have e := flatVs_VR ha hr
  subst e
  refine (hc w s.below.shp).mono ?_
  rintro e w' ⟨rfl, hb⟩
  exact ⟨.ret v, [], σ, .ret v u (hv σ), ⟨rfl, rfl⟩, s.grown hb, .refl σ⟩

/-- New memory that is read only from now on. -/
theorem Sim.newFro {w0 : Guard} {w : World} {σ : Sig} {h : Heap} (s : Sim w0 σ h w) (c : Array Value) (e : TypeId) :
    Sim w0 { σ with fro := fun b => if b = w.heap.size then some c else σ.fro b } h (w.alloc (.cells c e)) ∧ σ.Le { σ with fro := fun b => if b = w.heap.size then some c else σ.fro b } := by
  have s1 := s.grow (.cells c e)
  have hn : σ.fro w.heap.size = none := by
    cases hf : σ.fro w.heap.size with
    | none => rfl
    | some d =>
      obtain ⟨e', fr, hh⟩ := s.fro _ _ hf
      have := (Array.getElem?_eq_some_iff.1 hh).1
      omega
  have le : σ.Le { σ with fro := fun b => if b = w.heap.size then some c else σ.fro b } := by
    refine ⟨fun _ _ x => x, ?_, fun _ x => x⟩
    intro b d hb
    show (if b = w.heap.size then some c else σ.fro b) = some d
    rw [if_neg (fun q => by rw [q, hn] at hb; cases hb)]; exact hb
  refine ⟨⟨s1.below, s1.dom, s1.dom', ?_, ?_, s1.apart, ?_, ?_, s1.ex.step le (.same rfl) (fun _ _ _ _ _ a b => ⟨a, b⟩) (fun _ a => a), s1.vac⟩, le⟩
  · intro b d hb
    replace hb : (if b = w.heap.size then some c else σ.fro b) = some d := hb
    by_cases q : b = w.heap.size
    · rw [if_pos q] at hb; cases hb
      refine ⟨e, (0, 0), ?_⟩
      rw [q]
      show (w.heap.push (.cells c e))[w.heap.size]? = _
      simp
    · rw [if_neg q] at hb; exact s1.fro b d hb
  · intro i cs op l hi hq hl
    have M := s.live i cs op l hi hq hl
    have M1 := s1.live i cs op l hi hq hl
    obtain ⟨d, e', hb, hs, hr⟩ := M1.blk
    refine ⟨M1.base, ?_, M1.n, M1.opn, M1.room, d, e', hb, hs, fun j x y a b => (hr j x y a b).mono le⟩
    show (if l.b = w.heap.size then some c else σ.fro l.b) = none
    rw [if_neg (fun q => by have := s.blt hi hq hl; omega)]; exact M.nofro
  · intro i cs op l hi hq hl
    exact (s1.frz i cs op l hi hq hl).mono le
  · intro b d hb hx
    replace hb : (if b = w.heap.size then some c else σ.fro b) = some d := hb
    by_cases q : b = w.heap.size
    · have := (s.below.block b (w0.xp b hx)).1; have := s.below.size; omega
    · rw [if_neg q] at hb; exact s1.hide b d hb hx

/-- A function of the library that answers a list of texts, in new memory. -/
theorem pure_libS {P : Program} {f : FuncId} {args : List AV} {vals : List Value} {strs : List ByteArray} {n : Nat} (ha : args.map flatV = vals.map some)
    (hc : ∀ w, Shp w → Calls P f vals.toArray w fun e w' => e = .returned (.slice (some ⟨w.heap.size, 0, none⟩) n n) ∧ ∃ t, w' = w.alloc (.cells (strs.map Value.string).toArray t)) : Pure P f args (.islice true n (strs.map .str)) := by
  refine ⟨⟨fun w0 σ w us s hr => ?_⟩, flatVs_cl ha⟩
  have e := flatVs_VR ha hr
  subst e
  refine (hc w s.below.shp).mono ?_
  rintro e w' ⟨rfl, t, rfl⟩
  obtain ⟨s', le⟩ := s.newFro (strs.map Value.string).toArray t
  refine ⟨.ret _, [], _, .ret _ _ (.islice true n _ w.heap.size 0 n (strs.map Value.string).toArray (Nat.le_refl _) (fun _ => rfl) (if_pos rfl) (by simp) ?_), ⟨rfl, rfl⟩, s', le⟩
  intro j x y hx hy
  simp only [Nat.zero_add, List.getElem?_toArray, List.getElem?_map] at hx hy
  cases hs : strs[j]? with
  | none => rw [hs] at hx; simp at hx
  | some b => rw [hs] at hx hy; simp at hx hy; subst hx; subst hy; exact .str b

theorem VR.islice_inv {σ : Sig} {ex : Bool} {n : Nat} {cs : List AV} {u : Value} (r : VR σ (.islice ex n cs) u) :
    (∃ b o cap c, u = .slice (some ⟨b, o, none⟩) n cap ∧ n ≤ cap ∧ σ.fro b = some c ∧ o + cs.length ≤ c.size ∧ ∀ (j : Nat) x y, cs[j]? = some x → c[o + j]? = some y → VR σ x y) ∨ (n = 0 ∧ cs = [] ∧ ∃ a cap, u = .slice a 0 cap) := by
  cases r with
  | islice _ _ _ b o cap c hn hx hb hs h => exact .inl ⟨b, o, cap, c, rfl, hn, hb, hs, h⟩
  | isliceE _ a cap _ _ => exact .inr ⟨rfl, rfl, a, cap, rfl⟩

/-- strings.Join. -/
theorem pure_libJ {P : Program} {f : FuncId} {xs : List ByteArray} {sep r : ByteArray} {ex : Bool}
    (h0 : xs = [] → ∀ (a : Option Addr) (c : Nat) w, Calls P f #[.slice a 0 c, .string sep] w fun e w' => e = .returned (.string r) ∧ w' = w)
    (hc : ∀ (bk o c : Nat) w, (∀ (j : Nat) x, xs[j]? = some x → w.cell? ⟨bk, o + j, none⟩ = some (.string x)) → bk < w.heap.size → xs.length ≤ c →
      Calls P f #[.slice (some ⟨bk, o, none⟩) xs.length c, .string sep] w fun e w' => e = .returned (.string r) ∧ Below w.heap.size w w') :
    Pure P f [.islice ex xs.length (xs.map .str), .str sep] (.str r) := by
  refine ⟨⟨fun w0 σ w us s hr => ?_⟩, ?_⟩
  · have hl := hr.len
    match us, hl with
    | [u, v], _ =>
      have r1 := hr.at_ 0 _ u rfl rfl
      have r2 := hr.at_ 1 _ v rfl rfl
      cases r2
      have fin : ∀ {w'}, Below w.heap.size w w' → ∃ r' h' σ', ERel σ' r' (.returned (.string r)) ∧ (r' = .ret (.str r) ∧ h' = []) ∧ Sim w0 σ' h' w' ∧ σ.Le σ' :=
        fun hb => ⟨.ret (.str r), [], σ, .ret _ _ (.str r), ⟨rfl, rfl⟩, s.grown hb, .refl σ⟩
      rcases r1.islice_inv with ⟨b, o, cap, c, rfl, hn, hb, hs, hcell⟩ | ⟨h1, h2, a, cap, rfl⟩
      · obtain ⟨e, fr, hh⟩ := s.fro b c hb
        have hlt := (Array.getElem?_eq_some_iff.1 hh).1
        refine (hc b o cap w ?_ hlt hn).mono ?_
        · intro j x hj
          have hj' : j < xs.length := (List.getElem?_eq_some_iff.1 hj).1
          have hz : o + j < c.size := by simp at hs; omega
          have := hcell j (.str x) c[o + j] (by simp [hj]) (by simp [hz])
          simp only [World.cell?, hh, Array.getElem?_eq_getElem hz]
          generalize c[o + j] = y at this
          cases this; rfl
        · rintro e w' ⟨rfl, hb'⟩; exact fin hb'
      · have hx0 : xs = [] := List.length_eq_zero_iff.1 h1
        refine (h0 hx0 a cap w).mono ?_
        rintro e w' ⟨rfl, rfl⟩; exact fin (Below.refl _ _)
  · intro x hx
    simp only [List.mem_cons, List.not_mem_nil, or_false] at hx
    rcases hx with rfl | rfl
    · simp only [idLt_islice]
      intro y hy
      obtain ⟨b, _, rfl⟩ := List.mem_map.1 hy
      simp
    · simp

end Go.Proofs.YtginchgkbgcimaaDoor.AL
