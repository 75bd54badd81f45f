/- The operations over the abstract states: elements of arrays and texts, cuts of texts, texts that are a row of bytes. -/
import Derived.Test.YtginchgkbgcimaaDoorAeq
import Derived.Lib.UnsafeStr
import Derived.Lib.Builder
import Derived.Laws.DeepStrings4
import Derived.Laws.Slices
namespace Go.Proofs.YtginchgkbgcimaaDoor.AL
open Go Go.RowKit

/-! ### elements of arrays and texts that are values -/
def vcIdxv (x i : AV) (size len : Nat) (n : Option Nat) (K : AV → Prop) : Prop :=
  match x, i with
  | .agg cs, .int _ j => (0 ≤ j ∧ j < len) ∧ forceN (j.toNat * size) fun o => vcPart (.agg cs) o n K
  | _, _ => False

def chkIdxv (P : Program) (t : TypeId) (size len : Nat) (n : Option Nat) : Bool :=
  match P.underlying t with
  | some (.array m e) => m == len && (P.info? e).isSome && tsize P e == size && chkLoad P e n
  | _ => false

theorem vcIdxv_sound {P : Program} {w0 : Guard} {w : World} {σ : Sig} {h : Heap} (s : Sim w0 σ h w) {x i : AV} {vx vi : Value} {size len : Nat} {n : Option Nat} {t : TypeId} {K : Cont} (hc : chkIdxv P t size len n = true)
    (hx : VR σ x vx) (hi : VR σ i vi) (v : vcIdxv x i size len n fun r => K r h) : Good w0 σ K ((Instr.index t vx vi).run P w) := by
  unfold chkIdxv at hc
  unfold vcIdxv at v
  split at v
  · rename_i cs k j
    cases hi
    cases hx with
    | agg _ ds hl hr =>
      obtain ⟨⟨q1, q2⟩, v⟩ := v
      rw [forceN_eq] at v
      split at hc
      · rename_i m e hu
        simp only [Bool.and_eq_true, beq_iff_eq] at hc
        obtain ⟨⟨⟨rfl, h2⟩, h3⟩, h4⟩ := hc
        subst h3
        simp only [Instr.index, asIntOf, Sem.run_bind, Sem.run_pure, Result.andThen_ok, run_underlying hu, if_pos (And.intro q1 q2), run_sizeOf' w h2]
        exact part_sound s hl hr h4 v
      · simp at hc
  · exact v.elim

def byteAt (s : ByteArray) (j : Nat) : Nat := (s.data.toList.getD j 0).toNat

def vcIdxs (x i : AV) (K : AV → Prop) : Prop :=
  match x, i with
  | .str s, .int _ j => (0 ≤ j ∧ j < s.size) ∧ K (.int .u8 (byteAt s j.toNat))
  | _, _ => False

def isStr (P : Program) (t : TypeId) : Bool := match P.underlying t with | some .string => true | _ => false
theorem isStr_spec {P : Program} {t : TypeId} (h : isStr P t = true) : P.underlying t = some .string := by
  unfold isStr at h; split at h <;> first | assumption | simp at h

theorem vcIdxs_sound {P : Program} {w0 : Guard} {w : World} {σ : Sig} {h : Heap} (s : Sim w0 σ h w) {x i : AV} {vx vi : Value} {t : TypeId} {K : Cont} (hc : isStr P t = true)
    (hx : VR σ x vx) (hi : VR σ i vi) (v : vcIdxs x i fun r => K r h) : Good w0 σ K ((Instr.index t vx vi).run P w) := by
  have hu := isStr_spec hc
  unfold vcIdxs at v
  split at v
  · rename_i b k j
    cases hi; cases hx
    obtain ⟨⟨q1, q2⟩, v⟩ := v
    rw [run_index_string w t b k j hu, dif_pos ⟨q1, q2⟩]
    refine Good.same s ?_ v
    have hlt : j.toNat < b.data.toList.length := by rw [bytes_len]; omega
    have : byteAt b j.toNat = (b[j.toNat]'(by omega)).toNat := by
      unfold byteAt
      rw [List.getD_eq_getElem?_getD, List.getElem?_eq_getElem hlt]; rfl
    rw [this]
    exact .int _ _
  · exact v.elim

/-! ### cuts of texts -/
def scutB (s : ByteArray) (l u : Nat) : ByteArray := ⟨((s.data.toList.drop l).take (u - l)).toArray⟩
theorem scutB_eq (s : ByteArray) (l u : Nat) : s.extract l u = scutB s l u := by
  apply ByteArray.ext
  simp only [scutB, ByteArray.data_extract]
  apply Array.toList_inj.1
  simp [Array.toList_extract, List.extract_eq_take_drop]

def vcScut (x : AV) (lo hi : Option AV) (K : AV → Prop) : Prop :=
  match x with
  | .str s => match optI 0 lo, optI s.size hi with
    | some l, some u => (0 ≤ l ∧ l ≤ u ∧ u ≤ s.size) ∧ K (.str (scutB s l.toNat u.toNat))
    | _, _ => False
  | _ => False

theorem vcScut_sound {P : Program} {w0 : Guard} {w : World} {σ : Sig} {h : Heap} (s : Sim w0 σ h w) {x : AV} {vx : Value} {lo hi : Option AV} {vl vh : Option Value} {t : TypeId} {K : Cont} (hc : isStr P t = true)
    (hx : VR σ x vx) (hl : ∀ a, lo = some a → ∃ b, vl = some b ∧ VR σ a b) (hl' : lo = none → vl = none) (hh : ∀ a, hi = some a → ∃ b, vh = some b ∧ VR σ a b) (hh' : hi = none → vh = none)
    (v : vcScut x lo hi fun r => K r h) : Good w0 σ K ((Instr.sliceAt t vx vl vh none).run P w) := by
  have hu := isStr_spec hc
  rw [run_sliceAt_string _ _ _ _ _ _ hu]
  unfold vcScut at v
  split at v
  · rename_i b
    split at v
    · rename_i l u el eu
      cases hx
      obtain ⟨⟨q0, q1, q2⟩, v⟩ := v
      have e1 := optI_sound (σ := σ) el hl hl'
      have e2 := optI_sound (σ := σ) eu hh hh'
      have run : (Instr.slice t (.string b) vl vh none).run P w = .ok (.string (b.extract l.toNat u.toNat)) w := by
        rcases e2 with ⟨rfl, rfl, _⟩ | ⟨kh, rfl, _⟩
        · rcases e1 with ⟨rfl, rfl, _⟩ | ⟨kl, rfl, _⟩
          · simp [Instr.slice, run_underlying hu, Instr.sliceBounds]
          · simp [Instr.slice, run_underlying hu, Instr.sliceBounds, run_sliceBound kl l b.size _ ⟨q0, q1⟩]
        · have e := run_sliceBound (P := P) (w := w) kh u b.size BoundsCode.sliceAlen ⟨by omega, q2⟩
          rcases e1 with ⟨rfl, rfl, _⟩ | ⟨kl, rfl, _⟩
          · simp [Instr.slice, run_underlying hu, Instr.sliceBounds, e]
          · simp [Instr.slice, run_underlying hu, Instr.sliceBounds, e, run_sliceBound kl l u.toNat _ ⟨q0, by omega⟩]
      rw [run, scutB_eq]
      exact Good.same s (.str _) v
    · exact v.elim
  · exact v.elim

/-! ### texts that are a row of bytes -/
/-- An object that nobody looks at any more may change in any way. -/
theorem Sim.scratch {w0 : Guard} {w w' : World} {σ : Sig} {h : Heap} (s : Sim w0 σ h w) {i : Nat} {cs : List AV} {opn : Option Nat} {l : Loc} (hi : h[i]? = some (.cells cs opn)) (hqr : Real cs opn) (hl : σ.loc i = some l)
    (ho : w'.os = w.os) (ht : w'.tape = w.tape) (hp : w'.output = w.output) (hz : w'.heap.size = w.heap.size) (hb : ∀ k, k ≠ l.b → w'.heap[k]? = w.heap[k]?) : Sim w0 σ (h.set i .dead) w' := by
  have L := s.live i cs opn l hi hqr hl
  have sk := s.kill i
  have old : ∀ (j : Nat) o, o ≠ .dead → (h.set i .dead)[j]? = some o → j ≠ i ∧ h[j]? = some o := by
    intro j o hne hj
    rw [List.getElem?_set] at hj
    split at hj
    · split at hj <;> simp at hj; exact absurd hj.symm hne
    · rename_i q; exact ⟨fun e => q e.symm, hj⟩
  refine ⟨⟨ho.trans s.below.os, ht.trans s.below.tape, hp.trans s.below.output, by rw [hz]; exact s.below.size, fun k hk => ⟨(s.below.block k hk).1, by rw [hb k (fun e => L.base (e ▸ hk))]; exact (s.below.block k hk).2⟩⟩,
    sk.dom, sk.dom', ?_, ?_, sk.apart, sk.frz, s.hide, ?_, sk.vac⟩
  · intro b c hbc
    obtain ⟨e, fr, hh⟩ := s.fro b c hbc
    exact ⟨e, fr, by rw [hb b (fun q => by have := L.nofro; rw [← q, hbc] at this; cases this)]; exact hh⟩
  · intro j ds o m hj hqj hm
    obtain ⟨hne, hj'⟩ := old j _ (by simp) hj
    have M := s.live j ds o m hj' hqj hm
    obtain ⟨c, e, hbk, hs, hr⟩ := M.blk
    exact ⟨M.base, M.nofro, M.n, M.opn, M.room, c, e, by rw [hb m.b (s.apart j i _ _ _ _ m l hne hj' hi hqj hqr hm hl)]; exact hbk, hs, hr⟩
  · refine sk.ex.step (.refl σ) ?_ (fun _ _ _ _ _ a b => ⟨a, b⟩) (fun _ a => a)
    intro b o hbo hnc
    obtain ⟨c, e, hbk, _, _⟩ := L.blk
    rw [hb b (fun q => by rw [q, hbk] at hbo; cases hbo; simp [isNC] at hnc)]
    exact hbo

def vcSdata (x : AV) (K : AV → Prop) : Prop :=
  match x with
  | .slice i k _ cap => 0 < cap ∧ K (.ptr i k)
  | .lit (.slice none 0 0) => K (.lit (.pointer none))
  | _ => False

theorem vcSdata_sound {P : Program} {w0 : Guard} {w : World} {σ : Sig} {h : Heap} (s : Sim w0 σ h w) {x : AV} {vx : Value} {ts : Array TypeId} {ty : TypeId} {K : Cont}
    (hx : VR σ x vx) (v : vcSdata x fun r => K r h) : Good w0 σ K ((Builtin.unsafeSliceData_ ts ty #[vx]).run P w) := by
  unfold vcSdata at v
  split at v
  · rename_i i k len cap
    cases hx with
    | sliceE _ a l hl => have := v.1; omega
    | slice _ _ _ _ cap' l hl _ hcap =>
      have hc : cap' ≠ 0 := by rcases hcap with rfl | ⟨_, _, q, _⟩ <;> omega
      rw [Lib.run_unsafeSliceData_row _ _ _ _ _ _ hc]
      exact Good.same s (.ptr i k l hl) v.2
  · cases hx with
    | lit _ _ => exact Good.same s (.lit _ rfl) v
  · exact v.elim

def vcUstr (e : TypeId) (h : Heap) (x n : AV) (K : Cont) : Prop :=
  match x, n with
  | .lit (.pointer none), .int .i64 0 => K (.str ⟨#[]⟩) h
  | .ptr i 0, .int .i64 j => withCells h[i]? fun cs op => (match op with | some q => req (Nat.ble 1048576 q && Nat.beq (e + 1) (q / 1048576)) ((0 < j ∧ j ≤ cs.length ∧ j ≤ 9223372036854775807) ∧ wstr (cs.take j.toNat) fun s => withSet h i .dead fun h' => K s h') | none => False)
  | _, _ => False

def chkUstr (P : Program) (ts : Array TypeId) (e : TypeId) : Bool :=
  match ts.toList with
  | [pt, _] => (match P.underlying pt with | some (.pointer e') => e' == e | _ => false) && P.cellsOf e == 1
  | _ => false

theorem vcUstr_sound {P : Program} {w0 : Guard} {w : World} {σ : Sig} {h : Heap} (s : Sim w0 σ h w) {x n : AV} {vx vn : Value} {e : TypeId} {ts : Array TypeId} {ty : TypeId} {K : Cont} (hc : chkUstr P ts e = true)
    (hx : VR σ x vx) (hn : VR σ n vn) (v : vcUstr e h x n K) : Good w0 σ K ((Builtin.unsafeString_ ts ty #[vx, vn]).run P w) := by
  unfold chkUstr at hc
  split at hc
  · rename_i pt it hts
    have hts' : ts = #[pt, it] := by rw [← Array.toArray_toList (xs := ts), hts]
    subst hts'
    simp only [Bool.and_eq_true, beq_iff_eq] at hc
    obtain ⟨h1, h2⟩ := hc
    have hp : P.underlying pt = some (.pointer e) := by
      split at h1
      · rename_i e' he; rw [he, beq_iff_eq.1 h1]
      · simp at h1
    unfold vcUstr at v
    split at v
    · cases hx; cases hn
      rw [Lib.run_unsafeString_none]
      exact Good.same s (.str _) v
    · rename_i i j
      obtain ⟨cs, op, hi, v⟩ := withCells_elim v
      split at v
      · rename_i q
        obtain ⟨hq, v1⟩ := req_elim v
        simp only [Bool.and_eq_true, Nat.ble_eq, Nat.beq_eq] at hq
        obtain ⟨⟨j0, j1, j2⟩, l, hl, v2⟩ := v1
        have v3 := withSet_elim v2
        cases hn
        cases hx with
        | ptr _ _ lc hlc =>
          have hqr : Real cs (some q) := .of_lt (k := 0) (by omega)
          have L := s.live i cs _ lc hi hqr hlc
          obtain ⟨c, te, hbk, ⟨hroom, hty⟩, hr⟩ := L.blk
          obtain ⟨t1, t2, _⟩ := hty q L.opn hq.1
          have te' : te = e := Nat.succ.inj (t1.trans hq.2.symm)
          subst te'
          have hcl : cs.length ≤ c.size := by have := L.room; omega
          have hll : l.length = j.toNat := by
            have := congrArg List.length hl
            simp at this; omega
          have hcell : ∀ (a : Nat) (x : UInt8), l[a]? = some x → w.cell? ((⟨lc.b, 0, none⟩ : Addr).add a) = some (.int .u8 x.toNat) := by
            intro a x ha
            have ha' : a < l.length := (List.getElem?_eq_some_iff.1 ha).1
            have hx : cs[a]? = some (.int .u8 x.toNat) := by
              have := congrArg (fun z => z[a]?) hl
              simp only [List.getElem?_map, ha, Option.map_some, List.getElem?_take] at this
              rw [if_pos (by omega)] at this
              exact this
            obtain ⟨y, hy, hv⟩ := s.cell (.inl hi) hx hlc
            cases hv
            rw [t2] at hy
            simpa [Addr.add_lit] using hy
          have hrun := Lib.run_unsafeString_row (P := P) w pt it ty te hp h2 lc.b c.size (by simp [World.shape?, hbk]) l (fun q => by rw [q] at hll; simp at hll; omega) (by omega) (by omega) hcell
          rw [show (l.length : Int) = j by omega] at hrun
          rw [t2, Nat.zero_add, hrun]
          refine ⟨_, _, σ, _, _, rfl, .str _, v3, ?_, .refl σ⟩
          refine s.scratch hi hqr hlc ?_ ?_ ?_ ?_ ?_
          all_goals unfold World.freeze; split
          all_goals first | rfl | simp
          intro k hk
          rw [Array.getElem?_modify, if_neg (fun q => hk q.symm)]
      · exact v.elim
    · exact v.elim
  · simp at hc

/-! ### pointers and unsafe pointers -/
def vcTun (h : Heap) (x : AV) (K : AV → Prop) : Prop :=
  match x with
  | .ptr i k => withRead h[i]? fun cs _ => req (Nat.blt k cs.length) (K (.ptr i k))
  | _ => False
def chkTun (P : Program) (src dst : TypeId) : Bool :=
  (match P.underlying src with | some (.pointer t) => (P.info? t).any (·.size != 0) | _ => false) && (match P.underlying dst with | some .unsafePointer => true | _ => false)

theorem vcTun_sound {P : Program} {w0 : Guard} {w : World} {σ : Sig} {h : Heap} (s : Sim w0 σ h w) {x : AV} {vx : Value} {src dst : TypeId} {K : Cont} (hc : chkTun P src dst = true)
    (hx : VR σ x vx) (v : vcTun h x fun r => K r h) : Good w0 σ K ((convert src dst vx).run P w) := by
  unfold chkTun at hc
  simp only [Bool.and_eq_true] at hc
  obtain ⟨h1, h2⟩ := hc
  split at h1
  · rename_i t hs
    split at h2
    · rename_i hd
      unfold vcTun at v
      split at v
      · rename_i i k
        obtain ⟨cs, op, hi, v⟩ := withRead_elim v
        obtain ⟨hk, v⟩ := req_elim v
        have hk : k < cs.length := by simpa [Nat.blt_eq] using hk
        cases hx with
        | ptr _ _ l hl =>
          obtain ⟨_, _, c, e, fr, hb, hsz, _⟩ := s.read hi (.of_lt hk) hl
          obtain ⟨j, hj, hz⟩ := (Option.any_eq_true _ _).1 h1
          rw [Lib.run_to_unsafe w (e := e) (cells := c.size) ⟨l.b, l.o + k, none⟩ hs hd hj (by simpa using hz) (by simp [World.shape?, hb]) (by show l.o + k < c.size; omega)]
          exact Good.same s (.ptr i k l hl) v
      · exact v.elim
    · simp at h2
  · simp at h1

def vcFun (t n : Nat) (h : Heap) (x : AV) (K : AV → Prop) : Prop :=
  match x with
  | .ptr i 0 => withCells h[i]? fun cs op => req (cs.length == n) (match op with | some q => req (q == (t + 1) * 1048576 && Nat.blt 0 n) (K (.ptr i 0)) | none => False)
  | _ => False
def chkFun (P : Program) (src dst : TypeId) (t n : Nat) : Bool :=
  (match P.underlying src with | some .unsafePointer => true | _ => false) && (match P.underlying dst with | some (.pointer u) => u == t && (P.info? t).isSome | _ => false) && liesAt P P.depth t (n / P.cellsOf t) 0 t 1

theorem vcFun_sound {P : Program} {w0 : Guard} {w : World} {σ : Sig} {h : Heap} (s : Sim w0 σ h w) {x : AV} {vx : Value} {src dst : TypeId} {t n : Nat} {K : Cont} (hc : chkFun P src dst t n = true)
    (hx : VR σ x vx) (v : vcFun t n h x fun r => K r h) : Good w0 σ K ((convert src dst vx).run P w) := by
  unfold chkFun at hc
  simp only [Bool.and_eq_true] at hc
  obtain ⟨⟨h1, h2⟩, h3⟩ := hc
  split at h1
  · rename_i hs
    split at h2
    · rename_i u hd
      simp only [Bool.and_eq_true, beq_iff_eq] at h2
      obtain ⟨rfl, h2⟩ := h2
      obtain ⟨j, hj⟩ := Option.isSome_iff_exists.1 h2
      unfold vcFun at v
      split at v
      · rename_i i
        obtain ⟨cs, op, hi, v⟩ := withCells_elim v
        obtain ⟨hn, v1⟩ := req_elim v
        split at v1
        · rename_i q
          obtain ⟨hq, v2⟩ := req_elim v1
          have hn : cs.length = n := by simpa using hn
          simp only [Bool.and_eq_true, beq_iff_eq] at hq
          obtain ⟨hq, hn0⟩ := hq
          have hqr : Real cs (some q) := .of_lt (k := 0) (by simp [Nat.blt_eq] at hn0; omega)
          cases hx with
          | ptr _ _ l hl =>
            have L := s.live i cs _ l hi hqr hl
            obtain ⟨c, te, hbk, ⟨hroom, hty⟩, hr⟩ := L.blk
            obtain ⟨t1, t2, t3⟩ := hty q L.opn (by omega)
            have t1' : te = u := by
              rw [hq, Nat.mul_div_cancel _ (by decide)] at t1
              exact Nat.succ.inj t1
            subst t1'
            have hz : c.size = n := by rw [t3 (by rw [hq]; simp [osz]), L.n, hn]
            rw [t2, Nat.zero_add, Lib.run_from_unsafe w (e := te) (cells := n) ⟨l.b, 0, none⟩ hs hd hj (by simp [World.shape?, hbk, hz]) h3]
            have := VR.ptr (σ := σ) i 0 l hl
            rw [t2] at this
            exact Good.same s this v2
        · exact v1.elim
      · exact v.elim
    · simp at h2
  · simp at h1

def vcEqp (neg : Bool) (x y : AV) (K : AV → Prop) : Prop :=
  match x, y with
  | .ptr i k, .ptr j m => req (i == j && k == m) (K (.bool !neg))
  | _, _ => False
def chkEqp (P : Program) (t : TypeId) : Bool := match P.underlying t with | some (.pointer e) => (P.info? e).isSome | _ => false

theorem vcEqp_sound {P : Program} {w0 : Guard} {w : World} {σ : Sig} {h : Heap} (s : Sim w0 σ h w) {neg : Bool} {x y : AV} {vx vy : Value} {t : TypeId} {ox oy : Operand} {K : Cont} (hc : chkEqp P t = true)
    (hx : VR σ x vx) (hy : VR σ y vy) (v : vcEqp neg x y fun r => K r h) : Good w0 σ K ((do eqGuard (if neg then .neq else .eql) t ox oy vx vy; binOp (if neg then .neq else .eql) t vx vy : Sem Value).run P w) := by
  unfold chkEqp at hc
  split at hc
  · rename_i e hu
    obtain ⟨j, hj⟩ := Option.isSome_iff_exists.1 hc
    unfold vcEqp at v
    split at v
    · rename_i i k j m
      obtain ⟨hq, v1⟩ := req_elim v
      simp only [Bool.and_eq_true, beq_iff_eq] at hq
      obtain ⟨rfl, rfl⟩ := hq
      cases hx with
      | ptr _ _ l hl => cases hy with
        | ptr _ _ l' hl' =>
          rw [hl] at hl'; cases hl'
          have hd : ∀ d : Nat, (Op.equalIn (d + 1) t (.pointer (some ⟨l.b, l.o + k, none⟩)) (.pointer (some ⟨l.b, l.o + k, none⟩))).run P w = .ok true w := fun d => by
            simp [Op.equalIn, run_underlying hu, sizeOf, typeInfo, hj, run_sameAddr_same]
          rw [eq_run neg (fun op => by rw [eqGuard_at_pointer]; rfl) (fun _ => rfl) rfl (hd 9999)]
          have : (neg ^^ true) = !neg := by cases neg <;> rfl
          rw [this]
          exact Good.same s (.bool _) v1
    · exact v.elim
  · simp at hc

end Go.Proofs.YtginchgkbgcimaaDoor.AL
