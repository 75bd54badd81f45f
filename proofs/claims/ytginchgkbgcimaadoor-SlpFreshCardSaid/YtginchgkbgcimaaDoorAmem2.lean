/- The operations over the abstract states: aggregates, slices, append, copy. -/
import Derived.Test.YtginchgkbgcimaaDoorAmem
namespace Go.Proofs.YtginchgkbgcimaaDoor.AL
open Go Go.RowKit

/-! ### aggregates by value -/
/-- The places of a struct's or an array's parts: place and size. -/
def placeOf (P : Program) (t : TypeId) : Nat → Option (Nat × Nat) :=
  match P.underlying t with
  | some (.struct fs) => fun i => (fs[i]?).map fun f => (f.offset, tsize P f.type)
  | some (.array _ e) => fun i => some (i * tsize P e, tsize P e)
  | _ => fun _ => none

/-- Do the places' types have their rows? -/
def placesThere (P : Program) (t : TypeId) : Bool :=
  match P.underlying t with
  | some (.struct fs) => fs.all fun f => (P.info? f.type).isSome
  | some (.array _ e) => (P.info? e).isSome
  | _ => false

def chkParts (P : Program) (place : Nat → Option (Nat × Nat)) : List (Nat × Nat × Opd) → List (Nat × Operand) → Bool
  | [], [] => true
  | (o, sz, x) :: ps, (i, y) :: qs => place i == some (o, sz) && chkOpd x y && chkParts P place ps qs
  | _, _ => false

theorem chkParts_spec {P : Program} {place : Nat → Option (Nat × Nat)} {σ : Sig} {ts : List AV} {a : Act} (hf : FR σ ts a) : ∀ {ps : List (Nat × Nat × Opd)} {qs : List (Nat × Operand)}, chkParts P place ps qs = true →
    (qs.map fun q => (q.1, a.eval q.2)).length = (ps.map fun p => (p.1, p.2.1, ev ts p.2.2)).length ∧
    ∀ (j : Nat) o sz x i v, (ps.map fun p => (p.1, p.2.1, ev ts p.2.2))[j]? = some (o, sz, x) → (qs.map fun q => (q.1, a.eval q.2))[j]? = some (i, v) → place i = some (o, sz) ∧ VR σ x v
  | [], [], _ => ⟨rfl, by intro j o sz x i v h; simp at h⟩
  | [], _ :: _, h => by simp [chkParts] at h
  | _ :: _, [], h => by simp [chkParts] at h
  | (o, sz, x) :: ps, (i, y) :: qs, h => by
    simp only [chkParts, Bool.and_eq_true, beq_iff_eq] at h
    obtain ⟨⟨h1, h2⟩, h3⟩ := h
    obtain ⟨ih1, ih2⟩ := chkParts_spec hf h3
    refine ⟨by simpa using ih1, ?_⟩
    intro j o' sz' x' i' v' ha hb
    cases j with
    | zero =>
      simp at ha hb
      obtain ⟨rfl, rfl, rfl⟩ := ha
      obtain ⟨rfl, rfl⟩ := hb
      exact ⟨h1, ev_VR hf h2⟩
    | succ j => exact ih2 j o' sz' x' i' v' (by simpa using ha) (by simpa using hb)

theorem mapM_places {P : Program} (w : World) : ∀ (fs : List Field), (∀ f ∈ fs, (P.info? f.type).isSome = true) →
    (List.mapM (fun f : Field => do pure (f.offset, ← sizeOf f.type)) fs : Sem (List (Nat × Nat))).run P w = .ok (fs.map fun f => (f.offset, tsize P f.type)) w
  | [], _ => by simp
  | f :: fs, h => by
    have h1 := h f (by simp)
    have ih := mapM_places w fs (fun g hg => h g (by simp [hg]))
    simp only [List.mapM_cons, Sem.run_bind, run_sizeOf' w h1, Result.andThen_ok, Sem.run_pure, ih, List.map_cons]

theorem mapM_placesA {P : Program} (w : World) (fs : Array Field) (h : ∀ f ∈ fs.toList, (P.info? f.type).isSome = true) :
    (Array.mapM (fun f : Field => do pure (f.offset, ← sizeOf f.type)) fs : Sem (Array (Nat × Nat))).run P w = .ok (fs.map fun f => (f.offset, tsize P f.type)) w := by
  rw [Array.mapM_eq_mapM_toList, Sem.run_map, mapM_places w _ h]
  simp only [Result.andThen_ok]
  congr 1
  apply Array.ext'
  simp

def vcBuild (zs : List AV) (ps : List (Nat × Nat × AV)) (K : AV → Prop) : Prop := req (partsB zs.length ps) (fillK zs (ps.map fun p => (p.1, p.2.2)) fun l => K (.agg l))

def chkBuild (P : Program) (t : TypeId) (zs : List AV) (ps : List (Nat × Nat × Opd)) (qs : Array (Nat × Operand)) : Bool :=
  chkZero P t zs && placesThere P t && chkParts P (placeOf P t) ps qs.toList

theorem vcBuild_sound {P : Program} {w0 : Guard} {w : World} {σ : Sig} {h : Heap} (s : Sim w0 σ h w) {ts : List AV} {a : Act} (hf : FR σ ts a) {t : TypeId} {zs : List AV} {ps : List (Nat × Nat × Opd)} {qs : Array (Nat × Operand)} {K : Cont}
    (hc : chkBuild P t zs ps qs = true) (v : vcBuild zs (ps.map fun p => (p.1, p.2.1, ev ts p.2.2)) fun r => K r h) : Good w0 σ K ((Instr.build t (qs.map fun (i, x) => (i, a.eval x))).run P w) := by
  simp only [chkBuild, Bool.and_eq_true] at hc
  obtain ⟨⟨hz, hp⟩, hq⟩ := hc
  obtain ⟨z, hzr, hzs⟩ := chkZero_spec hz w σ
  obtain ⟨hl, hpl⟩ := chkParts_spec hf hq
  obtain ⟨v1, v2⟩ := req_elim v
  replace v1 := partsB_ok v1
  rw [fillK_eq] at v2
  have hmap : (qs.map fun (i, x) => (i, a.eval x)).toList = qs.toList.map fun q => (q.1, a.eval q.2) := by simp
  unfold placesThere at hp
  unfold placeOf at hpl
  cases hu : P.underlying t with
  | none => rw [hu] at hp; simp at hp
  | some d =>
    rw [hu] at hp hpl
    cases d <;> first
      | (simp at hp; done)
      | skip
    · rename_i len e
      simp only at hp hpl
      obtain ⟨es, he, hes⟩ := fill_sound _ _ _ zs z.cells zs.length hl hpl v1 hzs rfl
      simp only [Instr.build, Sem.run_bind, hzr, Result.andThen_ok, run_underlying hu, run_sizeOf' w hp, hmap, he, Sem.run_pure]
      refine Good.same s (.agg _ es (by simpa using hes.len) (fun j x y a b => hes.at_ j x y a (by simpa using b))) ?_
      simpa [List.map_map, Function.comp_def] using v2
    · rename_i fs
      simp only [Array.all_eq_true'] at hp
      simp only at hpl
      obtain ⟨es, he, hes⟩ := fill_sound _ _ _ zs z.cells zs.length hl hpl v1 hzs rfl
      have hm := mapM_placesA (P := P) w fs (fun f hf' => hp f (by simpa using hf'))
      have hfn : (fun i : Nat => (fs.map fun f : Field => (f.offset, tsize P f.type))[i]?) = fun i : Nat => (fs[i]?).map fun f : Field => (f.offset, tsize P f.type) := by funext i; simp
      simp only [Instr.build, Sem.run_bind, hzr, Result.andThen_ok, run_underlying hu, hm, hmap, hfn, he, Sem.run_pure]
      refine Good.same s (.agg _ es (by simpa using hes.len) (fun j x y a b => hes.at_ j x y a (by simpa using b))) ?_
      simpa [List.map_map, Function.comp_def] using v2

/-- n times the same cells. -/
def repl (n : Nat) (zs : List AV) : List AV := (List.replicate n zs).flatten

theorem repl_length (n : Nat) (zs : List AV) : (repl n zs).length = n * zs.length := by simp [repl]

theorem repl_get (n : Nat) (zs : List AV) (j : Nat) (hj : j < n * zs.length) : (repl n zs)[j]? = zs[j % zs.length]? := by
  induction n generalizing j with
  | zero => simp at hj
  | succ n ih =>
    have e : repl (n + 1) zs = zs ++ repl n zs := by simp [repl, List.replicate_succ]
    rw [e, List.getElem?_append]
    split
    · rename_i h1; rw [Nat.mod_eq_of_lt h1]
    · rename_i h1
      have h2 : j - zs.length < n * zs.length := by rw [Nat.succ_mul] at hj; omega
      rw [ih _ h2, Nat.mod_eq_sub_mod (by omega : j ≥ zs.length)]

theorem repl_VRs {σ : Sig} {zs : List AV} {z : Array Value} (h : VRs σ zs z.toList) (n : Nat) : VRs σ (repl n zs) ((Array.range (n * zs.length)).map (z[· % z.size]!)).toList := by
  have hl := h.len
  simp at hl
  refine ⟨by simp [repl_length], ?_⟩
  intro j x y hx hy
  have hj : j < n * zs.length := by have := (List.getElem?_eq_some_iff.1 hx).1; rwa [repl_length] at this
  have hz : zs.length ≠ 0 := by intro e; simp [e] at hj
  rw [repl_get n zs j hj] at hx
  simp [hj] at hy
  have hlt : j % z.size < z.size := Nat.mod_lt _ (by omega)
  rw [← hl] at hlt
  have hlt' : j % zs.length < z.size := by omega
  rw [← hl] at hy
  rw [getElem!_pos z _ hlt'] at hy
  exact h.at_ _ x y hx (by simp [hlt', hy])

def chkElem (P : Program) (t : TypeId) (size : Nat) : Bool := match P.underlying t with | some (.slice e) => chkSize P e size | _ => false
def elemOfT (P : Program) (t : TypeId) : TypeId := match P.underlying t with | some (.slice e) => e | _ => 0

theorem chkElem_spec {P : Program} {t : TypeId} {size : Nat} (h : chkElem P t size = true) : P.underlying t = some (.slice (elemOfT P t)) ∧ chkSize P (elemOfT P t) size = true := by
  unfold chkElem at h
  unfold elemOfT
  split at h
  · rename_i e he; simp [he, h]
  · simp at h

def vcBSlice (h : Heap) (len : Nat) (zs : List AV) (ps : List (Nat × Nat × AV)) (K : Cont) : Prop :=
  req (partsB (len * zs.length) ps) (fillK (repl len zs) (ps.map fun p => (p.1, p.2.2)) fun l => withNew h (.cells l none) fun i h' => K (.slice i 0 len len) h')

def chkBSlice (P : Program) (t : TypeId) (len : Nat) (zs : List AV) (ps : List (Nat × Nat × Opd)) (qs : Array (Nat × Operand)) : Bool :=
  chkElem P t zs.length && chkZero P (elemOfT P t) zs && decide (len * zs.length ≤ 2 ^ 24) && chkParts P (fun i => some (i * zs.length, zs.length)) ps qs.toList

theorem vcBSlice_sound {P : Program} {w0 : Guard} {w : World} {σ : Sig} {h : Heap} (s : Sim w0 σ h w) {ts : List AV} {a : Act} (hf : FR σ ts a) {t : TypeId} {len : Nat} {zs : List AV} {ps : List (Nat × Nat × Opd)} {qs : Array (Nat × Operand)} {K : Cont}
    (hc : chkBSlice P t len zs ps qs = true) (v : vcBSlice h len zs (ps.map fun p => (p.1, p.2.1, ev ts p.2.2)) K) : Good w0 σ K ((Instr.buildSlice t len (qs.map fun (i, x) => (i, a.eval x))).run P w) := by
  simp only [chkBSlice, Bool.and_eq_true, decide_eq_true_eq] at hc
  obtain ⟨⟨⟨he, hz⟩, h24⟩, hq⟩ := hc
  obtain ⟨hu, hsz⟩ := chkElem_spec he
  simp only [chkSize, Bool.and_eq_true, beq_iff_eq] at hsz
  obtain ⟨z, hzr, hzs⟩ := chkZero_spec hz w σ
  obtain ⟨hl, hpl⟩ := chkParts_spec hf hq
  obtain ⟨v1, v2⟩ := req_elim v
  replace v1 := partsB_ok v1
  rw [fillK_eq] at v2
  have hmap : (qs.map fun (i, x) => (i, a.eval x)).toList = qs.toList.map fun q => (q.1, a.eval q.2) := by simp
  have hrep : VRs σ (repl len zs) ((Array.range (len * zs.length)).map (z.cells[· % z.cells.size]!)).toList := repl_VRs hzs len
  have hrep0 : len * zs.length = 0 → VRs σ (repl len zs) ((Array.range (len * zs.length)).map ((#[] : Array Value)[· % (#[] : Array Value).size]!)).toList := by
    intro e
    refine ⟨by simp [repl_length, e], ?_⟩
    intro j x y hx hy
    simp [e] at hy
  by_cases e : len * zs.length = 0
  · obtain ⟨es, hes, hess⟩ := fill_sound _ _ _ (repl len zs) _ (len * zs.length) hl hpl v1 (hrep0 e) (repl_length len zs)
    simp only [Instr.buildSlice, Sem.run_bind, run_underlying hu, Result.andThen_ok, run_sizeOf' w hsz.1, hsz.2, gt_iff_lt, Nat.not_lt.2 h24, if_false, if_pos e, hmap, hes, newRow, run_newObj, Sem.run_pure]
    refine Good.newSlice s _ es _ len len (Nat.le_refl _) hess ?_
    simpa [List.map_map, Function.comp_def] using v2
  · obtain ⟨es, hes, hess⟩ := fill_sound _ _ _ (repl len zs) _ (len * zs.length) hl hpl v1 hrep (repl_length len zs)
    simp only [Instr.buildSlice, Sem.run_bind, run_underlying hu, Result.andThen_ok, run_sizeOf' w hsz.1, hsz.2, gt_iff_lt, Nat.not_lt.2 h24, if_false, if_neg e, hzr, hmap, hes, newRow, run_newObj, Sem.run_pure]
    refine Good.newSlice s _ es _ len len (Nat.le_refl _) hess ?_
    simpa [List.map_map, Function.comp_def] using v2

/-- So many zero values. -/
structure wrep (n : Nat) (zs : List AV) (K : List AV → Prop) : Prop where
  out : K (repl n zs)

/-- make([]T, l, c). -/
def vcMake (h : Heap) (bytes : Nat) (zs : List AV) (l c : AV) (K : Cont) : Prop :=
  match l, c with
  | .int _ l, .int _ c => (0 ≤ l ∧ l ≤ c ∧ c < 2 ^ 62 ∧ (bytes : Int) * c ≤ 2 ^ 48) ∧ wrep c.toNat zs fun cs => withNew h (.cells cs none) fun i h' => K (.slice i 0 l.toNat c.toNat) h'
  | _, _ => False

def chkMake (P : Program) (t : TypeId) (bytes : Nat) (zs : List AV) : Bool :=
  chkElem P t zs.length && chkZero P (elemOfT P t) zs && (P.bytesOf (elemOfT P t) == bytes)

theorem wrap_i64 {n : Int} (h0 : -(2 ^ 63) ≤ n) (h1 : n < 2 ^ 63) : IntKind.i64.wrap n = n := by
  simp only [IntKind.wrap, IntKind.bits, IntKind.signed]
  by_cases hn : 0 ≤ n
  · have e : n % (2 ^ 64 : Int) = n := Int.emod_eq_of_lt hn (by omega)
    simp only [e]
    rw [if_neg]
    simp; omega
  · have e : n % (2 ^ 64 : Int) = n + 2 ^ 64 := by
      rw [← Int.add_emod_right, Int.emod_eq_of_lt (by omega) (by omega)]
    simp only [e]
    rw [if_pos]
    · omega
    · simp; omega

theorem run_typeInfo' {P : Program} {t : TypeId} (w : World) (h : (P.info? t).isSome = true) : ∃ i, (typeInfo t).run P w = .ok i w ∧ i.bytes = P.bytesOf t ∧ i.size = tsize P t ∧ P.info? t = some i := by
  obtain ⟨i, hi⟩ := Option.isSome_iff_exists.1 h
  exact ⟨i, by simp [typeInfo, hi], by simp [Program.bytesOf, hi], by simp [tsize, Program.cellsOf, hi], hi⟩

theorem vcMake_sound {P : Program} {w0 : Guard} {w : World} {σ : Sig} {h : Heap} (s : Sim w0 σ h w) {t : TypeId} {bytes : Nat} {zs : List AV} {l c : AV} {vl vc : Value} {K : Cont}
    (hc : chkMake P t bytes zs = true) (hl : VR σ l vl) (hcc : VR σ c vc) (v : vcMake h bytes zs l c K) : Good w0 σ K ((Instr.makeSlice t vl vc).run P w) := by
  simp only [chkMake, Bool.and_eq_true, beq_iff_eq] at hc
  obtain ⟨⟨he, hz⟩, hb⟩ := hc
  obtain ⟨hu, hsz⟩ := chkElem_spec he
  simp only [chkSize, Bool.and_eq_true, beq_iff_eq] at hsz
  obtain ⟨z, hzr, hzs⟩ := chkZero_spec hz w σ
  unfold vcMake at v
  split at v
  · rename_i kl l kc c
    cases hl; cases hcc
    obtain ⟨⟨h0, h1, h2, h3⟩, v⟩ := v
    obtain ⟨i, hi, hib, his, _⟩ := run_typeInfo' (P := P) w hsz.1
    have wl : IntKind.i64.wrap l = l := wrap_i64 (by omega) (by omega)
    have wc : IntKind.i64.wrap c = c := wrap_i64 (by omega) (by omega)
    have hrep : VRs σ (repl c.toNat zs) ((Array.range (c.toNat * zs.length)).map (z.cells[· % z.cells.size]!)).toList := repl_VRs hzs c.toNat
    have hrep0 : c.toNat * zs.length = 0 → VRs σ (repl c.toNat zs) ((Array.range (c.toNat * zs.length)).map ((#[] : Array Value)[· % (#[] : Array Value).size]!)).toList := by
      intro e
      refine ⟨by simp [repl_length, e], ?_⟩
      intro j x y hx hy
      simp [e] at hy
    have t1 : ¬ (c < 0) := by omega
    have t2 : ¬ ((2 : Int) ^ 48 < (bytes : Int) * c) := by omega
    have t3 : ¬ (l < 0) := by omega
    have t4 : ¬ (c < l) := by omega
    by_cases e : c.toNat * zs.length = 0
    · simp only [Instr.makeSlice, Sem.run_bind, run_underlying hu, Result.andThen_ok, asInt, asIntOf, Sem.run_pure, hi, hib, hb, wl, wc, gt_iff_lt, t1, t2, t3, t4, decide_false, Bool.or_false, Bool.false_eq_true, if_false, run_askRoom, run_sizeOf' w hsz.1, hsz.2, if_pos e, newRow, run_newObj, Sem.run_ite]
      exact Good.newSlice s _ _ _ _ _ (by omega) (hrep0 e) v.out
    · simp only [Instr.makeSlice, Sem.run_bind, run_underlying hu, Result.andThen_ok, asInt, asIntOf, Sem.run_pure, hi, hib, hb, wl, wc, gt_iff_lt, t1, t2, t3, t4, decide_false, Bool.or_false, Bool.false_eq_true, if_false, run_askRoom, run_sizeOf' w hsz.1, hsz.2, if_neg e, hzr, newRow, run_newObj, Sem.run_ite]
      exact Good.newSlice s _ _ _ _ _ (by omega) hrep v.out
  · exact v.elim

end Go.Proofs.YtginchgkbgcimaaDoor.AL
