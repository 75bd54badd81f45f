/- The operations over the abstract states: clear, texts of bytes, capacities. -/
import Derived.Test.YtginchgkbgcimaaDoorAmem5
import Derived.Laws.BytesString
namespace Go.Proofs.YtginchgkbgcimaaDoor.AL
open Go Go.RowKit

def vcClr (h : Heap) (x : AV) (zs : List AV) (K : Cont) : Prop :=
  match x with
  | .slice i k len _ => withCells h[i]? fun cs op => req (zs.all AV.isCell) (wput cs k (repl len zs) fun cs' => withSet h i (.cells cs' op) (K (.tup [])))
  | .islice _ 0 _ => K (.tup []) h
  | .lit (.slice none 0 0) => K (.tup []) h
  | _ => False

def chkClr (P : Program) (ts : Array TypeId) (zs : List AV) : Bool :=
  match ts[0]? with
  | some t => chkElem P t zs.length && chkZero P (elemOfT P t) zs
  | none => false

theorem repl_all {n : Nat} {zs : List AV} (h : zs.all AV.isCell = true) : (repl n zs).all AV.isCell = true := by
  unfold repl
  rw [List.all_eq_true] at h ⊢
  intro x hx
  rw [List.mem_flatten] at hx
  obtain ⟨l, hl, hx⟩ := hx
  rw [List.mem_replicate] at hl
  rw [hl.2] at hx
  exact h x hx

theorem vcClr_sound {P : Program} {w0 : Guard} {w : World} {σ : Sig} {h : Heap} (s : Sim w0 σ h w) {x : AV} {vx : Value} {zs : List AV} {ts : Array TypeId} {ty : TypeId} {K : Cont} (hc : chkClr P ts zs = true)
    (hx : VR σ x vx) (v : vcClr h x zs K) : Good w0 σ K ((Builtin.clear_ ts ty #[vx]).run P w) := by
  unfold chkClr at hc
  split at hc
  · rename_i t h0
    simp only [Bool.and_eq_true] at hc
    obtain ⟨hu, hsz⟩ := chkElem_spec hc.1
    obtain ⟨z, hz, hzs⟩ := chkZero_spec hc.2 w σ
    unfold vcClr at v
    split at v
    · rename_i i k len cap
      obtain ⟨cs, op, hi, v⟩ := withCells_elim v
      obtain ⟨q1, v⟩ := req_elim v
      have hfit := v.len
      replace v := withSet_elim v.out
      cases hx with
      | sliceE _ a l hl =>
        have : setMany cs 0 (repl 0 zs) = cs := by simp [repl, setMany]
        rw [this, set_self _ _ _ hi] at v
        cases a <;> simp [Builtin.clear_, h0, run_underlying hu] <;> exact Good.same s (.tup [] #[] rfl (by intro j x y q; simp at q)) v
      | slice _ _ _ _ cap' l hl _ _ =>
        by_cases h0' : len = 0
        · subst h0'
          simp [Builtin.clear_, h0, run_underlying hu]
          have : setMany cs k (repl 0 zs) = cs := by simp [repl, setMany]
          rw [this, set_self _ _ _ hi] at v
          exact Good.same s (.tup [] #[] rfl (by intro j x y q; simp at q)) v
        · have hrep : VRs σ (repl len zs) (Builtin.zeroCells z.cells len).toList := by
            have := repl_VRs hzs len
            have hlz : zs.length = z.cells.size := by simpa using hzs.len
            rw [hlz] at this
            exact this
          obtain ⟨w', hrun, s'⟩ := run_storeCells (P := P) hl _ _ h w cs k 0 s hrep (repl_all q1) hi (by omega)
          have hrunA : (Builtin.clear_ ts ty #[.slice (some ⟨l.b, l.o + k, none⟩) len cap']).run P w = .ok (.tuple #[]) w' := by
            cases len with
            | zero => exact absurd rfl h0'
            | succ n => simp [Builtin.clear_, h0, run_underlying hu, hz, hrun]
          rw [hrunA]
          exact ⟨_, _, _, _, _, rfl, .tup [] #[] rfl (by intro j x y q; simp at q), v, s', .refl σ⟩
    · have hr : (Builtin.clear_ ts ty #[vx]).run P w = .ok (.tuple #[]) w := by
        cases hx with
        | islice _ _ _ b o cap c _ _ _ _ _ => simp [Builtin.clear_, h0, run_underlying hu]
        | isliceE _ a cap _ _ => cases a <;> simp [Builtin.clear_, h0, run_underlying hu]
      rw [hr]
      exact Good.same s (.tup [] #[] rfl (by intro j x y q; simp at q)) v
    · cases hx with
      | lit _ _ =>
        simp [Builtin.clear_, h0, run_underlying hu]
        exact Good.same s (.tup [] #[] rfl (by intro j x y q; simp at q)) v
    · exact v.elim
  · simp at hc

/-- A text of bytes. -/
structure wstr (cs : List AV) (K : AV → Prop) : Prop where
  out : ∃ l : List UInt8, cs = l.map (fun b => .int .u8 b.toNat) ∧ K (.str ⟨l.toArray⟩)

def vcB2s (h : Heap) (x : AV) (K : AV → Prop) : Prop :=
  match x with
  | .str _ => False
  | x => vcSrc h 1 x fun _ cs => wstr cs K

theorem fold_push (l : List UInt8) : ∀ s : ByteArray, (l.map fun b => (b.toNat : Int)).foldl (fun r n => r.push (UInt8.ofNat n.toNat)) s = ⟨(s.data.toList ++ l).toArray⟩ := by
  induction l with
  | nil => intro s; simp
  | cons b l ih =>
    intro s
    simp only [List.map_cons, List.foldl_cons, ih]
    congr 1
    simp [ByteArray.push]

theorem vcB2s_sound {P : Program} {w0 : Guard} {w : World} {σ : Sig} {h : Heap} (s : Sim w0 σ h w) {x : AV} {vx : Value} {src dst e : TypeId} {K : Cont} (hs : P.underlying src = some (.slice e)) (he : P.underlying e = some (.int .u8)) (hd : P.underlying dst = some .string)
    (hx : VR σ x vx) (v : vcB2s h x fun r => K r h) : Good w0 σ K ((convert src dst vx).run P w) := by
  have main : vcSrc h 1 x (fun _ cs => wstr cs fun r => K r h) → (∃ a n c, vx = .slice a n c ∧ (a = none → n = 0)) → Good w0 σ K ((convert src dst vx).run P w) := by
    rintro v ⟨a, n, c, rfl, ha⟩
    obtain ⟨m, cs, hsrc, hw⟩ := vcSrc_elim v
    obtain ⟨l, rfl, hk⟩ := hw.out
    obtain ⟨hlen, hfc⟩ := srcOf_sound (P := P) s hsrc hx
    have hm : n = m := by simp [Builtin.lenOf] at hlen; exact hlen
    subst hm
    obtain ⟨ds, hd1, hd2⟩ := hfc n (Nat.le_refl _)
    have hcl := srcOf_len hsrc
    rw [List.take_of_length_le (by omega)] at hd2
    rw [run_convert_bytes_string w src dst e a n c hs he hd]
    cases a with
    | none =>
      have hn := ha rfl
      subst hn
      have : l = [] := List.length_eq_zero_iff.1 (by simpa using hcl)
      subst this
      simp [Conv.bytesToString]
      exact Good.same s (.str _) hk
    | some a =>
      simp only [Builtin.firstCells, Nat.mul_one] at hd1
      have hds : ds = ((l.map fun b => (b.toNat : Int)).map (Value.int .u8)).toArray := by
        apply Array.ext'
        rw [List.map_map]
        simp only []
        refine List.ext_getElem? fun j => ?_
        have hl2 := hd2.len
        by_cases hj : j < l.length
        · have h1 : (l.map (fun b => AV.int .u8 b.toNat))[j]? = some (.int .u8 (l[j].toNat : Int)) := by simp [hj]
          obtain ⟨y, hy, hr⟩ := hd2.get h1
          rw [hy]
          cases hr
          simp [hj]
        · rw [List.getElem?_eq_none (by rw [← hl2]; simpa using hj), List.getElem?_eq_none (by simpa using hj)]
      rw [hds] at hd1
      rw [run_bytesToString w a n c _ hd1, fold_push]
      exact Good.same s (by simpa using VR.str _) hk
  unfold vcB2s at v
  split at v
  · exact v.elim
  · refine main v ?_
    cases hx with
    | slice i k len cap cap' l hl _ _ => exact ⟨_, _, _, rfl, by intro q; cases q⟩
    | islice ex n cs b o cap c _ _ _ _ _ => exact ⟨_, _, _, rfl, by intro q; cases q⟩
    | isliceE ex a cap _ _ => exact ⟨_, _, _, rfl, fun _ => rfl⟩
    | sliceE i a l _ => exact ⟨_, _, _, rfl, fun _ => rfl⟩
    | lit u hp =>
      unfold vcSrc at v
      split at v <;> first | exact v.elim | (rename_i q; cases q; done) | (rename_i q; cases q; exact ⟨_, _, _, rfl, fun _ => rfl⟩) | (cases u <;> simp [plainLit] at hp v)
    | str _ => rename_i q; exact absurd rfl (q _)
    | _ => exact v.elim

/-- A function of the model's own. -/
structure AExt (P : Program) (f : FuncId) (args : List AV) (h : Heap) (K : Cont) : Prop where
  run : ∀ w0 σ w (vals : List Value), Sim w0 σ h w → VRs σ args vals → ∃ v' w' σ' v h', (callFunc f vals.toArray).run P w = .ok (.value v') w' ∧ VR σ' v v' ∧ K v h' ∧ Sim w0 σ' h' w' ∧ σ.Le σ'

end Go.Proofs.YtginchgkbgcimaaDoor.AL
