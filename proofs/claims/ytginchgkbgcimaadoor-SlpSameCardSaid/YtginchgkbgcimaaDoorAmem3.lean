/- The operations over the abstract states: places in slices, cuts, append, copy. -/
import Derived.Test.YtginchgkbgcimaaDoorAmem2
import Derived.Laws.Append
namespace Go.Proofs.YtginchgkbgcimaaDoor.AL
open Go Go.RowKit

/-! ### places -/
/-- An element's cells out of a list's. -/
structure wfoc (cs : List AV) (n size : Nat) (K : List AV → Prop) : Prop where
  len : n * size + size ≤ cs.length
  out : K ((cs.drop (n * size)).take size)

theorem VR.focus {σ : Sig} {cs : List AV} {b o : Nat} {c : Array Value} (k n : Nat) (hb : σ.fro b = some c) (hs : o + cs.length ≤ c.size) (h : ∀ (j : Nat) x y, cs[j]? = some x → c[o + j]? = some y → VR σ x y) (hk : k ≤ cs.length) :
    VR σ (.iptr ((cs.drop k).take n) 0) (.pointer (some ⟨b, o + k, none⟩)) := by
  refine .iptr _ 0 b (o + k) c hb (by simp; omega) ?_
  intro j x y hx hy
  rw [List.getElem?_take] at hx
  split at hx
  · rw [List.getElem?_drop] at hx
    exact h (k + j) x y hx (by rw [← Nat.add_assoc]; exact hy)
  · simp at hx

theorem VR.aptr' {σ : Sig} {i k j s o off : Nat} {l : Loc} (hl : σ.loc i = some l) (h : off = l.o + (k + j * s + o)) : VR σ (.aptr i k j s o) (.pointer (some ⟨l.b, off, none⟩)) := by
  subst h; exact .aptr i k j s o l hl

def vcIdx (x i : AV) (size : Nat) (K : AV → Prop) : Prop :=
  match x, i with
  | .slice b k len _, .int _ n => (0 ≤ n ∧ n < len) ∧ K (.aptr b k n.toNat size 0)
  | .islice _ len cs, .int _ n => (0 ≤ n ∧ n < len) ∧ wfoc cs n.toNat size fun ys => K (.iptr ys 0)
  | _, _ => False

theorem vcIdx_sound {P : Program} {w0 : Guard} {w : World} {σ : Sig} {h : Heap} (s : Sim w0 σ h w) {x i : AV} {vx vi : Value} {size : Nat} {t : TypeId} {K : Cont} (hc : chkElem P t size = true) (hx : VR σ x vx) (hi : VR σ i vi)
    (v : vcIdx x i size fun r => K r h) : Good w0 σ K ((Instr.indexAt t vx vi).run P w) := by
  obtain ⟨hu, hsz⟩ := chkElem_spec hc
  simp only [chkSize, Bool.and_eq_true, beq_iff_eq] at hsz
  unfold vcIdx at v
  split at v
  · rename_i b k len cap kk n
    cases hi
    cases hx with
    | sliceE _ a l hl => exact absurd v.1.2 (by have := v.1.1; simp; omega)
    | slice _ _ _ _ cap' l hl h1 h2 =>
      obtain ⟨v1, v⟩ := v
      simp only [Instr.indexAt, asIntOf, Sem.run_bind, Sem.run_pure, Result.andThen_ok, run_underlying hu, if_pos v1, run_sizeOf' w hsz.1, hsz.2, Addr.add_lit, Nat.add_assoc]
      exact Good.same s (VR.aptr' hl (by simp)) v
  · rename_i ex len cs kk n
    cases hi
    obtain ⟨v1, v⟩ := v
    cases hx with
    | islice _ _ _ b o cap c h1 h2 h3 h4 h5 =>
      simp only [Instr.indexAt, asIntOf, Sem.run_bind, Sem.run_pure, Result.andThen_ok, run_underlying hu, if_pos v1, run_sizeOf' w hsz.1, hsz.2, Addr.add_lit]
      exact Good.same s (VR.focus _ _ h3 h4 h5 (by have := v.len; omega)) v.out
    | isliceE => exact absurd v1.2 (by have := v1.1; simp; omega)
  · exact v.elim

def vcIdxA (x i : AV) (size len : Nat) (K : AV → Prop) : Prop :=
  match x, i with
  | .ptr b k, .int _ n => (0 ≤ n ∧ n < len) ∧ K (.aptr b k n.toNat size 0)
  | .aptr b k j s o, .int _ n => (0 ≤ n ∧ n < len) ∧ K (.aptr b (k + j * s + o) n.toNat size 0)
  | .iptr cs k, .int _ n => ((0 ≤ n ∧ n < len) ∧ k ≤ cs.length) ∧ wfoc (cs.drop k) n.toNat size fun ys => K (.iptr ys 0)
  | _, _ => False

def chkArr (P : Program) (t : TypeId) (size len : Nat) : Bool := match P.underlying t with | some (.array n e) => n == len && chkSize P e size | _ => false

theorem vcIdxA_sound {P : Program} {w0 : Guard} {w : World} {σ : Sig} {h : Heap} (s : Sim w0 σ h w) {x i : AV} {vx vi : Value} {size len : Nat} {t : TypeId} {K : Cont} (hc : chkArr P t size len = true) (hx : VR σ x vx) (hi : VR σ i vi)
    (v : vcIdxA x i size len fun r => K r h) : Good w0 σ K ((Instr.indexAt t vx vi).run P w) := by
  unfold chkArr at hc
  split at hc
  · rename_i n e hu
    simp only [chkSize, Bool.and_eq_true, beq_iff_eq] at hc
    obtain ⟨rfl, hsz⟩ := hc
    unfold vcIdxA at v
    split at v
    · cases hi
      cases hx with
      | ptr _ _ l hl =>
        obtain ⟨v1, v⟩ := v
        simp only [Instr.indexAt, asIntOf, Instr.sureAddr, Sem.run_bind, Sem.run_pure, Result.andThen_ok, run_underlying hu, if_pos v1, run_sizeOf' w hsz.1, hsz.2, Addr.add_lit, Nat.add_assoc]
        exact Good.same s (VR.aptr' hl (by simp)) v
    · cases hi
      cases hx with
      | aptr _ _ _ _ _ l hl =>
        obtain ⟨v1, v⟩ := v
        simp only [Instr.indexAt, asIntOf, Instr.sureAddr, Sem.run_bind, Sem.run_pure, Result.andThen_ok, run_underlying hu, if_pos v1, run_sizeOf' w hsz.1, hsz.2, Addr.add_lit]
        exact Good.same s (VR.aptr' hl (by simp [Nat.add_assoc])) v
    · rename_i cs k _ n
      cases hi
      cases hx with
      | iptr _ _ b o c h3 h4 h5 =>
        obtain ⟨⟨v1, hkl⟩, v⟩ := v
        simp only [Instr.indexAt, asIntOf, Instr.sureAddr, Sem.run_bind, Sem.run_pure, Result.andThen_ok, run_underlying hu, if_pos v1, run_sizeOf' w hsz.1, hsz.2, Addr.add_lit]
        have hlen := v.len
        simp only [List.length_drop] at hlen
        exact Good.same s (VR.focus (o := o + k) _ _ h3 (by simp; omega) (by
          intro j x y hx hy
          rw [List.getElem?_drop] at hx
          exact h5 (k + j) x y hx (by rw [← Nat.add_assoc]; exact hy)) (by simp; omega)) v.out
    · exact v.elim
  · simp at hc

def vcFld (x : AV) (off : Nat) (K : AV → Prop) : Prop :=
  match x with
  | .ptr b k => K (.ptr b (k + off))
  | .iptr cs k => K (.iptr cs (k + off))
  | .aptr b k j s o => K (.aptr b k j s (o + off))
  | _ => False

def chkFld (P : Program) (t : TypeId) (f off : Nat) : Bool :=
  match P.underlying t with
  | some (.struct fs) => match fs[f]? with | some fd => fd.offset == off && (P.info? fd.type).isSome && tsize P fd.type != 0 | none => false
  | _ => false

theorem vcFld_sound {P : Program} {w0 : Guard} {w : World} {σ : Sig} {h : Heap} (s : Sim w0 σ h w) {x : AV} {vx : Value} {off f : Nat} {t : TypeId} {K : Cont} (hc : chkFld P t f off = true) (hx : VR σ x vx)
    (v : vcFld x off fun r => K r h) : Good w0 σ K ((Instr.fieldAt t vx f).run P w) := by
  unfold chkFld at hc
  split at hc
  · rename_i fs hu
    cases hf : fs[f]? with
    | none => simp [hf] at hc
    | some fd =>
      simp only [hf, Bool.and_eq_true, beq_iff_eq, bne_iff_ne, ne_eq] at hc
      obtain ⟨⟨rfl, hi⟩, hne⟩ := hc
      unfold vcFld at v
      split at v
      · cases hx with
        | ptr _ _ l hl =>
          simp only [Instr.fieldAt, hf, Instr.sureAddr, fieldPlace, Sem.run_bind, Sem.run_pure, Result.andThen_ok, run_underlying hu, run_sizeOf' w hi, hne, if_false, Addr.add_lit, Nat.add_assoc]
          exact Good.same s (.ptr _ _ l hl) v
      · cases hx with
        | iptr _ _ b o c h3 h4 h5 =>
          simp only [Instr.fieldAt, hf, Instr.sureAddr, fieldPlace, Sem.run_bind, Sem.run_pure, Result.andThen_ok, run_underlying hu, run_sizeOf' w hi, hne, if_false, Addr.add_lit, Nat.add_assoc]
          exact Good.same s (.iptr _ _ b o c h3 h4 h5) v
      · cases hx with
        | aptr _ _ _ _ _ l hl =>
          simp only [Instr.fieldAt, hf, Instr.sureAddr, fieldPlace, Sem.run_bind, Sem.run_pure, Result.andThen_ok, run_underlying hu, run_sizeOf' w hi, hne, if_false, Addr.add_lit]
          exact Good.same s (VR.aptr' hl (by simp [Nat.add_assoc])) v
      · exact v.elim
  · simp at hc

/-- A part of an aggregate value. -/
def vcPart (x : AV) (off : Nat) (n : Option Nat) (K : AV → Prop) : Prop :=
  match x, n with
  | .agg cs, none => match cs[off]? with | some v => K v | none => False
  | .agg cs, some m => req (decide (off + m ≤ cs.length)) (forceL ((cs.drop off).take m) fun l => K (.agg l))
  | _, _ => False

theorem part_sound {P : Program} {w0 : Guard} {w : World} {σ : Sig} {h : Heap} (s : Sim w0 σ h w) {cs : List AV} {ds : Array Value} (hl : cs.length = ds.size) (hr : ∀ (j : Nat) x y, cs[j]? = some x → ds[j]? = some y → VR σ x y)
    {t : TypeId} {off : Nat} {n : Option Nat} {K : Cont} (hc : chkLoad P t n = true) (v : vcPart (.agg cs) off n fun r => K r h) : Good w0 σ K ((part t ds off).run P w) := by
  unfold chkLoad at hc
  simp only [Bool.and_eq_true] at hc
  obtain ⟨hu, hc⟩ := hc
  unfold vcPart at v
  cases n with
  | none =>
    simp only [Bool.not_eq_true'] at hc
    simp only at v
    cases h0 : cs[off]? with
    | none => rw [h0] at v; exact v.elim
    | some y =>
      rw [h0] at v
      have hlt : off < ds.size := by rw [← hl]; exact (List.getElem?_eq_some_iff.1 h0).1
      have e : ds[off]? = some ds[off] := by simp [hlt]
      simp only [part, Sem.run_bind, run_isAgg' w hu, hc, Result.andThen_ok, Bool.false_eq_true, if_false, e, Sem.run_pure]
      exact Good.same s (hr off y _ h0 e) v
  | some m =>
    simp only [Bool.and_eq_true, beq_iff_eq] at hc
    obtain ⟨⟨hag, hi⟩, rfl⟩ := hc
    obtain ⟨v1, v⟩ := req_elim v
    rw [forceL_eq] at v
    simp only [decide_eq_true_eq] at v1
    simp only [part, Sem.run_bind, run_isAgg' w hu, hag, Result.andThen_ok, if_true, run_sizeOf' w hi, Sem.run_pure]
    refine Good.same s (.agg _ _ (by simp; omega) ?_) v
    intro j x y hx hy
    rw [List.getElem?_take] at hx
    split at hx
    · rename_i hj
      rw [List.getElem?_drop] at hx
      rw [Array.getElem?_extract] at hy
      split at hy
      · exact hr _ x y hx hy
      · simp at hy
    · simp at hx

def chkFldv (P : Program) (t : TypeId) (f off : Nat) (n : Option Nat) : Bool :=
  match P.underlying t with
  | some (.struct fs) => match fs[f]? with | some fd => fd.offset == off && chkLoad P fd.type n | none => false
  | _ => false

theorem vcFldv_sound {P : Program} {w0 : Guard} {w : World} {σ : Sig} {h : Heap} (s : Sim w0 σ h w) {x : AV} {vx : Value} {off f : Nat} {n : Option Nat} {t : TypeId} {K : Cont} (hc : chkFldv P t f off n = true) (hx : VR σ x vx)
    (v : vcPart x off n fun r => K r h) : Good w0 σ K ((Instr.field t vx f).run P w) := by
  unfold chkFldv at hc
  split at hc
  · rename_i fs hu
    cases hf : fs[f]? with
    | none => simp [hf] at hc
    | some fd =>
      simp only [hf, Bool.and_eq_true, beq_iff_eq] at hc
      obtain ⟨rfl, hl⟩ := hc
      cases hx with
      | agg cs ds hlen hr =>
        simp only [Instr.field, Sem.run_bind, run_underlying hu, Result.andThen_ok, hf, asAgg, Sem.run_pure]
        exact part_sound s hlen hr hl v
      | _ => cases n <;> exact v.elim
  · simp at hc

def vcExt (x : AV) (i : Nat) (K : AV → Prop) : Prop := match x with | .tup vs => (match vs[i]? with | some v => K v | none => False) | _ => False

theorem vcExt_sound {P : Program} {w0 : Guard} {w : World} {σ : Sig} {h : Heap} (s : Sim w0 σ h w) {x : AV} {vx : Value} {i : Nat} {K : Cont} (hx : VR σ x vx) (v : vcExt x i fun r => K r h) : Good w0 σ K ((Instr.extract vx i).run P w) := by
  unfold vcExt at v
  split at v
  · rename_i vs
    cases hx with
    | tup _ ds hl hr =>
      cases h0 : vs[i]? with
      | none => rw [h0] at v; exact v.elim
      | some y =>
        rw [h0] at v
        have hlt : i < ds.size := by rw [← hl]; exact (List.getElem?_eq_some_iff.1 h0).1
        have e : ds[i]? = some ds[i] := by simp [hlt]
        simp only [Instr.extract, e, Sem.run_pure]
        exact Good.same s (hr i y _ h0 e) v
  · exact v.elim

/-! ### len -/
def vcLen (x : AV) (K : AV → Prop) : Prop :=
  match x with
  | .slice _ _ n _ => K (.int .i64 n)
  | .islice _ n _ => K (.int .i64 n)
  | .lit (.slice none 0 0) => K (.int .i64 0)
  | .str s => K (.int .i64 s.size)
  | _ => False

def chkLen (P : Program) (ts : Array TypeId) : Bool := match ts[0]? with | some t => (match P.underlying t with | some (.slice _) | some .string => true | _ => false) | none => false

theorem vcLen_sound {P : Program} {w0 : Guard} {w : World} {σ : Sig} {h : Heap} (s : Sim w0 σ h w) {x : AV} {args : Array Value} {vx : Value} {ts : Array TypeId} {ty : TypeId} {K : Cont} (hc : chkLen P ts = true) (ha : args[0]? = some vx) (hx : VR σ x vx)
    (ht : ∀ t, ts[0]? = some t → match x with | .str _ => P.underlying t = some .string | _ => ∃ e, P.underlying t = some (.slice e)) (v : vcLen x fun r => K r h) : Good w0 σ K ((Builtin.len_ ts ty args).run P w) := by
  unfold chkLen at hc
  split at hc
  · rename_i t h0
    have ht := ht t h0
    unfold vcLen at v
    split at v
    · obtain ⟨e, hu⟩ := ht
      cases hx <;>
      simp only [Builtin.len_, h0, ha, Sem.run_bind, run_underlying hu, Result.andThen_ok, Sem.run_pure] <;>
      exact Good.same s (.int _ _) v
    · obtain ⟨e, hu⟩ := ht
      cases hx
      all_goals
        simp only [Builtin.len_, h0, ha, Sem.run_bind, run_underlying hu, Result.andThen_ok, Sem.run_pure]
        exact Good.same s (.int _ _) v
    · obtain ⟨e, hu⟩ := ht
      cases hx
      simp only [Builtin.len_, h0, ha, Sem.run_bind, run_underlying hu, Result.andThen_ok, Sem.run_pure]
      exact Good.same s (.int _ _) v
    · cases hx
      simp only [Builtin.len_, h0, ha, Sem.run_bind, run_underlying ht, Result.andThen_ok, Sem.run_pure]
      exact Good.same s (.int _ _) v
    · exact v.elim
  · simp at hc

/-! ### cuts -/
def optI (d : Int) : Option AV → Option Int
  | none => some d
  | some (.int _ n) => some n
  | some _ => none

def opnOk (h : Heap) (i size : Nat) : Prop := match rdObj h[i]? with | some (_, none) => True | some (_, some sz) => osz sz = size | _ => False
/-- A part of a list's cells. -/
structure wcut (cs : List AV) (k n : Nat) (K : List AV → Prop) : Prop where
  out : K ((cs.drop k).take n)
/-- Is there any room? -/
structure wzero (l m : Int) (A B : Prop) : Prop where
  eq : m = l → A
  lt : l < m → B
theorem wzero_lt {l m : Int} {A B : Prop} (h : l < m) (b : B) : wzero l m A B := ⟨fun e => absurd e (by omega), fun _ => b⟩
theorem wzero_eq {l m : Int} {A B : Prop} (h : m = l) (a : A) : wzero l m A B := ⟨fun _ => a, fun e => absurd e (by omega)⟩
/-- A condition that is asked of the walk. -/
structure ask (p : Prop) (q : Prop) : Prop where
  fst : p
  snd : q
def opnFit (op : Option Nat) (size : Nat) : Bool := match op with | none => true | some sz => osz sz == size

def exCut (mx : Option AV) (m u : Int) (ex : Bool) (n : Nat) : Bool := match mx with | some _ => m == u | none => ex && u == (n : Int)

/-- The same, told which. -/
def exK (mx : Option AV) (m u : Int) (ex : Bool) (n : Nat) (K : Bool → Prop) : Prop := match mx with | some _ => K (m == u) | none => K (ex && u == (n : Int))
theorem exK_eq (mx : Option AV) (m u : Int) (ex : Bool) (n : Nat) (K : Bool → Prop) : exK mx m u ex n K = K (exCut mx m u ex n) := by cases mx <;> rfl

def vcSlc (h : Heap) (x : AV) (lo hi mx : Option AV) (size : Nat) (K : AV → Prop) : Prop :=
  match x with
  | .slice i k len cap => match optI 0 lo, optI len hi, optI cap mx with
    | some l, some u, some m => (0 ≤ l ∧ l ≤ u ∧ u ≤ m ∧ m ≤ cap) ∧ withRead h[i]? fun _ op => req (opnFit op size) (wzero l m (K (.islice (mx.isSome && m == l) 0 [])) (K (.slice i (k + l.toNat * size) (u - l).toNat (m - l).toNat)))
    | _, _, _ => False
  | .islice ex n cs => match optI 0 lo, optI n hi, optI n mx with
    | some l, some u, some m => (0 ≤ l ∧ l ≤ u ∧ u ≤ m ∧ m ≤ n) ∧ n * size = cs.length ∧
        wcut cs (l.toNat * size) ((u - l).toNat * size) fun ys => exK mx m u ex n fun e => K (.islice e (u - l).toNat ys)
    | _, _, _ => False
  | .lit (.slice none 0 0) => match optI 0 lo, optI 0 hi, optI 0 mx with
    | some l, some u, some m => l = 0 ∧ u = 0 ∧ m = 0 ∧ K (.lit (.slice none 0 0))
    | _, _, _ => False
  | _ => False

theorem optI_sound {σ : Sig} {d : Int} {x : Option AV} {v : Option Value} {n : Int} (h : optI d x = some n) (hr : ∀ a, x = some a → ∃ b, v = some b ∧ VR σ a b) (hn : x = none → v = none) :
    (v = none ∧ n = d ∧ x = none) ∨ (∃ k, v = some (.int k n) ∧ x.isSome = true) := by
  unfold optI at h
  split at h
  · simp at h; exact .inl ⟨hn rfl, h.symm, rfl⟩
  · simp at h; subst h
    obtain ⟨b, hb, hv⟩ := hr _ rfl
    cases hv
    exact .inr ⟨_, hb, rfl⟩
  · simp at h

theorem run_sliceBound {P : Program} {w : World} (k : IntKind) (i : Int) (y : Nat) (code : BoundsCode) (h : 0 ≤ i ∧ i ≤ y) : (Instr.sliceBound (.int k i) y code).run P w = .ok i.toNat w := by
  simp only [Instr.sliceBound, asIntOf, Sem.run_bind, Sem.run_pure, Result.andThen_ok, if_pos h]

/-- The bounds of a cut, run. -/
theorem run_sliceBounds {P : Program} {w : World} (len cap : Nat) {lo hi mx : Option Value} {l u m : Int} (hlo : (lo = none ∧ l = 0) ∨ ∃ k, lo = some (.int k l)) (hhi : (hi = none ∧ u = len) ∨ ∃ k, hi = some (.int k u))
    (hmx : (mx = none ∧ m = cap) ∨ ∃ k, mx = some (.int k m)) (hmh : mx.isSome = true → hi.isSome = true) (h0 : 0 ≤ l) (h1 : l ≤ u) (h2 : u ≤ m) (h3 : m ≤ cap) :
    (Instr.sliceBounds true len cap lo hi mx).run P w = .ok (l.toNat, u.toNat, m.toNat) w := by
  rcases hmx with ⟨rfl, rfl⟩ | ⟨km, rfl⟩
  · rcases hhi with ⟨rfl, rfl⟩ | ⟨kh, rfl⟩
    · rcases hlo with ⟨rfl, rfl⟩ | ⟨kl, rfl⟩
      · simp [Instr.sliceBounds]
      · simp [Instr.sliceBounds, run_sliceBound kl l len _ ⟨h0, h1⟩]
    · have e := run_sliceBound (P := P) (w := w) kh u cap BoundsCode.sliceAcap ⟨by omega, h2⟩
      have hu : (u.toNat : Int) = u := by omega
      rcases hlo with ⟨rfl, rfl⟩ | ⟨kl, rfl⟩
      · simp [Instr.sliceBounds, e]
      · simp [Instr.sliceBounds, e, run_sliceBound kl l u.toNat _ ⟨h0, by omega⟩]
  · rcases hhi with ⟨rfl, _⟩ | ⟨kh, rfl⟩
    · simp at hmh
    · have e := run_sliceBound (P := P) (w := w) km m cap BoundsCode.slice3Acap ⟨by omega, h3⟩
      have e' := run_sliceBound (P := P) (w := w) kh u m.toNat BoundsCode.slice3B ⟨by omega, by omega⟩
      rcases hlo with ⟨rfl, rfl⟩ | ⟨kl, rfl⟩
      · simp [Instr.sliceBounds, e, e']
      · simp [Instr.sliceBounds, e, e', run_sliceBound kl l u.toNat _ ⟨h0, by omega⟩]

theorem Sim.real {w0 : Guard} {w : World} {σ : Sig} {h : Heap} (s : Sim w0 σ h w) {i : Nat} {cs : List AV} {op : Option Nat} {l : Loc} (hi : h[i]? = some (.cells cs op)) (hl : σ.loc i = some l) (hn : 0 < l.n) : Real cs op := by
  refine Classical.byContradiction fun hq => ?_
  have h1 : cs = [] := Classical.byContradiction fun e => hq (.inl e)
  subst h1
  have := s.vac i op l (.inl hi) (fun e => hq (.inr e)) hl
  omega

theorem opnOk_sz {w0 : Guard} {w : World} {σ : Sig} {h : Heap} (s : Sim w0 σ h w) {i size sz : Nat} {l : Loc} (vo : opnOk h i size) (hl : σ.loc i = some l) (ho : l.opn = some sz) (hn : 0 < l.n) : osz sz = size := by
  have key : ∀ {cs : List AV} {op : Option Nat}, Readable h i cs op → l.opn = op := by
    intro cs op hr
    by_cases hq : Real cs op
    · exact (s.read hr hq hl).2.1
    · exfalso
      have h1 : cs = [] := Classical.byContradiction fun e => hq (.inl e)
      subst h1
      have := s.vac i op l hr (fun e => hq (.inr e)) hl
      omega
  unfold opnOk at vo
  split at vo
  · rename_i hq
    have := key (rdObj_some.1 hq); rw [ho] at this; cases this
  · rename_i hq
    have := key (rdObj_some.1 hq); rw [ho] at this; cases this; exact vo
  · exact vo.elim

theorem vcSlc_sound {P : Program} {w0 : Guard} {w : World} {σ : Sig} {h : Heap} (s : Sim w0 σ h w) {x : AV} {vx : Value} {lo hi mx : Option AV} {vl vh vm : Option Value} {size : Nat} {t : TypeId} {K : Cont} (hc : chkElem P t size = true)
    (hx : VR σ x vx) (hl : ∀ a, lo = some a → ∃ b, vl = some b ∧ VR σ a b) (hl' : lo = none → vl = none) (hh : ∀ a, hi = some a → ∃ b, vh = some b ∧ VR σ a b) (hh' : hi = none → vh = none)
    (hm : ∀ a, mx = some a → ∃ b, vm = some b ∧ VR σ a b) (hm' : mx = none → vm = none) (hmh : mx.isSome = true → hi.isSome = true) (v : vcSlc h x lo hi mx size fun r => K r h) :
    Good w0 σ K ((Instr.sliceAt t vx vl vh vm).run P w) := by
  obtain ⟨hu, hsz⟩ := chkElem_spec hc
  simp only [chkSize, Bool.and_eq_true, beq_iff_eq] at hsz
  have hmh' : vm.isSome = true → vh.isSome = true := by
    intro e
    cases mx with
    | none => rw [hm' rfl] at e; simp at e
    | some a =>
      cases hi with
      | none => simp at hmh
      | some b => obtain ⟨c, hc, _⟩ := hh b rfl; simp [hc]
  have run : ∀ (a : Option Addr) (len cap : Nat) (l u m : Int), ((vl = none ∧ l = 0) ∨ ∃ k, vl = some (.int k l)) → ((vh = none ∧ u = len) ∨ ∃ k, vh = some (.int k u)) → ((vm = none ∧ m = cap) ∨ ∃ k, vm = some (.int k m)) →
      0 ≤ l → l ≤ u → u ≤ m → m ≤ cap → (Instr.sliceAt t (.slice a len cap) vl vh vm).run P w = .ok (.slice (if m.toNat = l.toNat then a else a.map (·.add (l.toNat * size))) (u.toNat - l.toNat) (m.toNat - l.toNat)) w := by
    intro a len cap l u m e1 e2 e3 q0 q1 q2 q3
    simp only [Instr.sliceAt, Sem.run_bind, run_underlying hu, Result.andThen_ok, Instr.slice, run_sliceBounds len cap e1 e2 e3 hmh' q0 q1 q2 q3, run_sizeOf' w hsz.1, hsz.2, Sem.run_pure]
  have weak : ∀ {d : Int} {y : Option AV} {z : Option Value} {n : Int}, (z = none ∧ n = d ∧ y = none) ∨ (∃ k, z = some (.int k n) ∧ y.isSome = true) → (z = none ∧ n = d) ∨ ∃ k, z = some (.int k n) := by
    intro d y z n q
    rcases q with ⟨a, b, _⟩ | ⟨k, a, _⟩
    · exact .inl ⟨a, b⟩
    · exact .inr ⟨k, a⟩
  simp only [vcSlc, exK_eq] at v
  split at v
  · rename_i i k len cap
    split at v
    · rename_i l u m el eu em
      obtain ⟨⟨q0, q1, q2, q3⟩, vw⟩ := v
      obtain ⟨cs0, op0, hcs0, vw⟩ := withRead_elim vw
      obtain ⟨vo0, vw⟩ := req_elim vw
      have vz := vw.eq
      have vs := vw.lt
      have vo : opnOk h i size := by
        unfold opnOk; rw [rdObj_some.2 hcs0]
        cases op0 with
        | none => trivial
        | some sz => simpa [opnFit] using vo0
      have e1 := optI_sound (σ := σ) el hl hl'
      have e2 := optI_sound (σ := σ) eu hh hh'
      have e3 := optI_sound (σ := σ) em hm hm'
      cases hx with
      | sliceE _ a lc hlc =>
        have hl0 : l = 0 := by omega
        have hu0 : u = 0 := by omega
        have hm0 : m = 0 := by omega
        subst hl0 hu0 hm0
        rw [run a 0 0 0 0 0 (weak e1) (weak e2) (weak e3) (by omega) (by omega) (by omega) (by omega)]
        exact Good.same s (.isliceE _ _ _ (fun _ => rfl) (fun _ => rfl)) (vz rfl)
      | slice _ _ _ _ cap' lc hlc hlen hcap =>
        have hle : cap ≤ cap' := by rcases hcap with rfl | ⟨_, _, q, _⟩ <;> omega
        -- the bound that the model takes in the third place
        obtain ⟨m', e3', hm1, hm2, hm3⟩ : ∃ m' : Int, ((vm = none ∧ m' = cap') ∨ ∃ k, vm = some (.int k m')) ∧ m ≤ m' ∧ m' ≤ cap' ∧ (mx.isSome = true → m' = m) := by
          rcases e3 with ⟨a, b, c⟩ | ⟨kk, a, c⟩
          · exact ⟨cap', .inl ⟨a, rfl⟩, by omega, by omega, by simp [c]⟩
          · exact ⟨m, .inr ⟨kk, a⟩, by omega, by omega, fun _ => rfl⟩
        rw [run _ len cap' l u m' (weak e1) (weak e2) e3' q0 q1 (by omega) hm2]
        by_cases hz : m = l
        · refine Good.same s ?_ (vz hz)
          have : u.toNat - l.toNat = 0 := by omega
          rw [this]
          refine .isliceE _ _ _ ?_ ?_
          · intro hb
            simp only [Bool.and_eq_true, beq_iff_eq] at hb
            have := hm3 hb.1
            omega
          · intro hn
            split at hn <;> simp at hn
        · have hlt : l < m := by omega
          refine Good.same s ?_ (vs hlt)
          rw [if_neg (by omega)]
          simp only [Option.map_some, Addr.add_lit, Nat.add_assoc]
          have := VR.slice (σ := σ) i (k + l.toNat * size) (u - l).toNat (m - l).toNat (m'.toNat - l.toNat) lc hlc (by omega) (by
            by_cases hme : m' = m
            · left; omega
            · right
              rcases hcap with rfl | ⟨sz, hsz1, hszc, hsz2, hsz3⟩
              · exfalso
                rcases e3 with ⟨a, b, c⟩ | ⟨kk, a, c⟩
                · omega
                · exact hme (hm3 c)
              · refine ⟨sz, hsz1, by omega, ?_, ?_⟩
                · have hnone : mx = none := by
                    cases mx with
                    | none => rfl
                    | some _ => exact absurd (hm3 rfl) hme
                  have hmc : m = cap := by
                    rcases e3 with ⟨_, b, _⟩ | ⟨_, _, c⟩
                    · exact b
                    · rw [hnone] at c; simp at c
                  have hss : osz sz = size := opnOk_sz s vo hlc hsz1 (by
                      have h9 : 0 < cap * osz sz := Nat.mul_pos hszc.1 hszc.2.2
                      omega)
                  subst hss
                  have hq : (m - l).toNat = cap - l.toNat := by omega
                  rw [hq, Nat.sub_mul, ← hsz2]
                  have : l.toNat * osz sz ≤ cap * osz sz := Nat.mul_le_mul_right _ (by omega)
                  omega
                · have hss : osz sz = size := opnOk_sz s vo hlc hsz1 (by
                      have h9 : 0 < cap * osz sz := Nat.mul_pos hszc.1 hszc.2.2
                      omega)
                  subst hss
                  have h1 : m'.toNat * osz sz ≤ cap' * osz sz := Nat.mul_le_mul_right _ (by omega)
                  rw [Nat.sub_mul]
                  have : l.toNat * osz sz ≤ m'.toNat * osz sz := Nat.mul_le_mul_right _ (by omega)
                  omega)
          rw [show u.toNat - l.toNat = (u - l).toNat by omega, ← Nat.add_assoc] at *
          exact this
    · exact v.elim
  · rename_i ex n cs
    split at v
    · rename_i l u m el eu em
      obtain ⟨⟨q0, q1, q2, q3⟩, vn, vs0⟩ := v
      have vs := vs0.out
      have e1 := optI_sound (σ := σ) el hl hl'
      have e2 := optI_sound (σ := σ) eu hh hh'
      have e3 := optI_sound (σ := σ) em hm hm'
      -- both forms at once: a slice of n elements with a capacity
      obtain ⟨a, cap, rfl, hcap, hex, hdat, hnone⟩ : ∃ a cap, vx = .slice a n cap ∧ n ≤ cap ∧ (ex = true → cap = n) ∧
          (n = 0 ∨ ∃ b o c, a = some ⟨b, o, none⟩ ∧ σ.fro b = some c ∧ o + cs.length ≤ c.size ∧ ∀ (j : Nat) x y, cs[j]? = some x → c[o + j]? = some y → VR σ x y) ∧ (a = none → cap = 0) := by
        cases hx with
        | islice _ _ _ b o cap c h1 h2 h3 h4 h5 => exact ⟨_, cap, rfl, h1, h2, .inr ⟨b, o, c, rfl, h3, h4, h5⟩, by intro e; cases e⟩
        | isliceE _ a cap h1 h2 => exact ⟨a, cap, rfl, Nat.zero_le _, h1, .inl rfl, h2⟩
      obtain ⟨m', e3', hm1, hm2, hm3⟩ : ∃ m' : Int, ((vm = none ∧ m' = cap) ∨ ∃ k, vm = some (.int k m')) ∧ m ≤ m' ∧ m' ≤ cap ∧ ((mx.isSome = true → m' = m) ∧ (mx = none → m' = cap ∧ m = n)) := by
        rcases e3 with ⟨a, b, c⟩ | ⟨kk, a, c⟩
        · exact ⟨cap, .inl ⟨a, rfl⟩, by omega, by omega, by simp [c], fun _ => ⟨rfl, b⟩⟩
        · exact ⟨m, .inr ⟨kk, a⟩, by omega, by omega, fun _ => rfl, fun e => by rw [e] at c; simp at c⟩
      rw [run _ n cap l u m' (weak e1) (weak e2) e3' q0 q1 (by omega) hm2]
      have hexact : exCut mx m u ex n = true → m'.toNat - l.toNat = u.toNat - l.toNat := by
        intro hb
        unfold exCut at hb
        cases mx with
        | some _ =>
          have := hm3.1 rfl
          simp only [beq_iff_eq] at hb
          omega
        | none =>
          obtain ⟨h1, h2⟩ := hm3.2 rfl
          simp only [Bool.and_eq_true, beq_iff_eq] at hb
          have := hex hb.1
          omega
      refine Good.same s ?_ vs
      by_cases hz : u = l
      · have e0 : (u - l).toNat = 0 := by omega
        have e0' : u.toNat - l.toNat = 0 := by omega
        rw [e0, e0', Nat.zero_mul, List.take_zero]
        refine .isliceE _ _ _ ?_ ?_
        · intro hb; have := hexact hb; omega
        · intro hn
          have : a = none := by
            split at hn
            · exact hn
            · simpa using hn
          have := hnone this
          omega
      · rcases hdat with h0 | ⟨b, o, c, rfl, h3, h4, h5⟩
        · omega
        · rw [if_neg (by omega)]
          simp only [Option.map_some, Addr.add_lit]
          rw [show u.toNat - l.toNat = (u - l).toNat by omega] at *
          have hl1 : (u - l).toNat * size + l.toNat * size ≤ cs.length := by
            rw [← Nat.add_mul, ← vn]; exact Nat.mul_le_mul_right _ (by omega)
          refine .islice _ _ _ b (o + l.toNat * size) _ c (by omega) ?_ h3 ?_ ?_
          · intro hb; exact hexact hb
          · simp; omega
          · intro j x y hx hy
            rw [List.getElem?_take] at hx
            split at hx
            · rw [List.getElem?_drop] at hx
              exact h5 _ x y hx (by rw [← Nat.add_assoc]; exact hy)
            · simp at hx
    · exact v.elim
  · split at v
    · rename_i l u m el eu em
      obtain ⟨rfl, rfl, rfl, vs⟩ := v
      have e1 := optI_sound (σ := σ) el hl hl'
      have e2 := optI_sound (σ := σ) eu hh hh'
      have e3 := optI_sound (σ := σ) em hm hm'
      cases hx with
      | lit _ hp =>
        rw [run none 0 0 0 0 0 (weak e1) (weak e2) (weak e3) (by omega) (by omega) (by omega) (by omega)]
        exact Good.same s (.lit _ rfl) vs
    · exact v.elim
  · exact v.elim

end Go.Proofs.YtginchgkbgcimaaDoor.AL
