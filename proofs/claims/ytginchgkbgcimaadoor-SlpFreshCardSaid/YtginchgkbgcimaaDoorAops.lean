/- The operations over the abstract states, one by one: what each asks and gives, and that the model's own operation does so. -/
import Derived.Test.YtginchgkbgcimaaDoorAshape
import Derived.Laws.BitsLemmas
namespace Go.Proofs.YtginchgkbgcimaaDoor.AL
open Go Go.RowKit

def tget : List AV → Nat → AV
  | [], _ => .wild
  | x :: _, 0 => x
  | _ :: xs, n + 1 => tget xs n

def tset : List AV → Nat → AV → List AV
  | [], _, _ => []
  | _ :: xs, 0, v => v :: xs
  | x :: xs, n + 1, v => x :: tset xs n v

theorem tget_eq (xs : List AV) (n : Nat) : tget xs n = xs[n]?.getD .wild := by
  induction xs generalizing n with
  | nil => simp [tget]
  | cons x xs ih => cases n <;> simp [tget, ih]

theorem tset_eq (xs : List AV) (n : Nat) (v : AV) : tset xs n v = xs.set n v := by
  induction xs generalizing n with
  | nil => simp [tset]
  | cons x xs ih => cases n <;> simp [tset, ih]

inductive Opd where
  | t (n : Nat)
  | c (v : AV)
  deriving Inhabited

def ev (ts : List AV) : Opd → AV
  | .t n => tget ts n
  | .c v => v

/-- The frame's slots. -/
def FR (σ : Sig) (ts : List AV) (a : Act) : Prop := VRs σ ts a.tmps.toList

def eqLit : Value → Value → Bool
  | .pointer none, .pointer none | .slice none 0 0, .slice none 0 0 | .map none, .map none | .chan none, .chan none | .nilFunc, .nilFunc | .nilIface, .nilIface => true
  | _, _ => false

def eqPlain : AV → Value → Bool
  | .bool a, .bool b => a == b
  | .int k n, .int k' n' => k == k' && n == n'
  | .str s, .string s' => s.data.toList == s'.data.toList
  | .lit v, w => eqLit v w
  | .fn (.func f) [] [], .func (.func g) a b => f == g && a.size == 0 && b.size == 0
  | _, _ => false

theorem eqPlain_VR (σ : Sig) {x : AV} {v : Value} (h : eqPlain x v = true) : VR σ x v := by
  unfold eqPlain at h
  split at h
  · simp at h; subst h; exact .bool _
  · simp at h; obtain ⟨rfl, rfl⟩ := h; exact .int _ _
  · rename_i s s'
    have e : s = s' := by
      cases s with | mk d => cases s' with | mk d' => simp at h; cases d; cases d'; simp at h; subst h; rfl
    subst e; exact .str _
  · unfold eqLit at h
    split at h <;> first | (exact .lit _ rfl) | simp at h
  · simp only [Bool.and_eq_true, beq_iff_eq] at h
    obtain ⟨⟨rfl, ha⟩, hb⟩ := h
    exact .fn _ [] [] _ _ (by simp [ha]) (by intro j x y q; simp at q) (by simp [hb]) (by intro j x y q; simp at q)
  · simp at h

def chkOpd : Opd → Operand → Bool
  | .t n, .tmp m => n == m
  | .c v, .const w => eqPlain v w
  | .c (.fn (.func f) [] []), .func g => f == g
  | _, _ => false

theorem ev_VR {σ : Sig} {ts : List AV} {a : Act} (hf : FR σ ts a) {x : Opd} {o : Operand} (h : chkOpd x o = true) : VR σ (ev ts x) (a.eval o) := by
  unfold chkOpd at h
  split at h
  · rename_i n m
    simp at h; subst h
    simp only [ev, tget_eq, Act.eval]
    cases hx : ts[n]? with
    | none => exact .wild _
    | some x =>
      obtain ⟨y, hy, hr⟩ := hf.get hx
      have : a.tmps.getD n undef = y := by
        rw [Array.getElem?_toList] at hy
        simp [Array.getD_eq_getD_getElem?, hy]
      rw [this]; exact hr
  · exact eqPlain_VR σ h
  · simp at h; subst h
    exact .fn _ [] [] _ _ rfl (by intro j x y q; simp at q) rfl (by intro j x y q; simp at q)
  · simp at h

def chkOpds (xs : List Opd) (os : Array Operand) : Bool := xs.length == os.size && (xs.zip os.toList).all fun (x, o) => chkOpd x o

theorem evs_VRs {σ : Sig} {ts : List AV} {a : Act} (hf : FR σ ts a) {xs : List Opd} {os : Array Operand} (h : chkOpds xs os = true) : VRs σ (xs.map (ev ts)) (os.map a.eval).toList := by
  simp only [chkOpds, Bool.and_eq_true, beq_iff_eq, List.all_eq_true] at h
  obtain ⟨hl, h⟩ := h
  refine ⟨by simp [hl], ?_⟩
  intro j x y hx hy
  simp only [List.getElem?_map, Option.map_eq_some_iff, Array.toList_map] at hx hy
  obtain ⟨x0, hx0, rfl⟩ := hx
  obtain ⟨y0, hy0, rfl⟩ := hy
  refine ev_VR hf (h (x0, y0) ?_)
  have : (xs.zip os.toList)[j]? = some (x0, y0) := by simp [List.getElem?_zip_eq_some, hx0, hy0]
  exact List.mem_of_getElem? this

abbrev Cont := AV → Heap → Prop

/-- A statement under a name that no reckoning opens: the walk goes on there step by step. -/
structure hid (p : Prop) : Prop where
  out : p
theorem hid_iff (p : Prop) : hid p ↔ p := ⟨fun h => h.out, fun h => ⟨h⟩⟩
theorem hid_mk {p : Prop} (h : p) : hid p := ⟨h⟩
theorem hid_eq (p : Prop) : hid p = p := propext (hid_iff p)

/-- Two ways, by a Bool. -/
abbrev bcase (b : Bool) (A B : Prop) : Prop := match b with | true => A | false => B
theorem bcase_mk {b : Bool} {A B : Prop} (h : b = true → A) (k : b = false → B) : bcase b A B := by cases b <;> first | exact h rfl | exact k rfl
theorem bcase_dec {p : Prop} [Decidable p] {A B : Prop} (h : p → A) (k : ¬ p → B) : bcase (decide p) A B := bcase_mk (fun e => h (of_decide_eq_true e)) (fun e => k (of_decide_eq_false e))
theorem bcase_not {b : Bool} {A B : Prop} (h : bcase b B A) : bcase (!b) A B := by cases b <;> exact h
theorem bcase_beq {a b : Int} {A B : Prop} (h : a = b → A) (k : a ≠ b → B) : bcase (a == b) A B := bcase_mk (fun e => h (by simpa using e)) (fun e => k (by simpa using e))
theorem bcase_bne {a b : Int} {A B : Prop} (h : a ≠ b → A) (k : a = b → B) : bcase (a != b) A B := bcase_mk (fun e => h (by simpa using e)) (fun e => k (by simpa using e))

/-- Where a walk ends: nothing opens it. -/
structure fin (p : Prop) : Prop where
  out : p
theorem fin_iff (p : Prop) : fin p ↔ p := ⟨fun h => h.out, fun h => ⟨h⟩⟩
theorem fin_mk {p : Prop} (h : p) : fin p := ⟨h⟩
theorem fin_el {p : Prop} (h : fin p) : p := h.out
theorem fin_eq (p : Prop) : fin p = p := propext (fin_iff p)

/-- A side condition that is reckoned. -/
def req (b : Bool) (K : Prop) : Prop := match b with | true => K | false => False

theorem req_elim {b : Bool} {K : Prop} (h : req b K) : b = true ∧ K := by cases b <;> first | exact h.elim | exact ⟨rfl, h⟩
theorem req_mk {b : Bool} {K : Prop} (h : b = true) (k : K) : req b K := by subst h; exact k

/-- What an operation's run comes to. -/
def Good (w0 : Guard) (σ : Sig) (K : Cont) (r : Result Value) : Prop := ∃ v' w' σ' v h', r = .ok v' w' ∧ VR σ' v v' ∧ K v h' ∧ Sim w0 σ' h' w' ∧ σ.Le σ'

theorem Good.same {w0 : Guard} {w : World} {σ : Sig} {h : Heap} {K : Cont} {v : AV} {v' : Value} (s : Sim w0 σ h w) (r : VR σ v v') (k : K v h) : Good w0 σ K (.ok v' w) := ⟨v', w, σ, v, h, rfl, r, k, s, .refl σ⟩

/-! ### numbers -/
inductive EqC where
  | scal | bool | slice | ptr | func | iface | map
  | flat (ks : List Nat)
  deriving Inhabited

/-- Equal cells of scalars, by kinds (0 bool, 1 int, 2 string); none: not scalars of the kind. -/
def eqScal : Nat → AV → AV → Option Bool
  | 0, .bool a, .bool b => some (a == b)
  | 1, .int k a, .int k' b => if k = k' then some (a == b) else none
  | 2, .str a, .str b => some (a.toList == b.toList)
  | _, _, _ => none

def eqScals : List Nat → List AV → List AV → Option Bool
  | [], [], [] => some true
  | k :: ks, x :: xs, y :: ys => match eqScal k x y, eqScals ks xs ys with | some a, some b => some (a && b) | _, _ => none
  | _, _, _ => none

/-- A number, wrapped to its kind. -/
structure wnum (k : IntKind) (n : Int) (K : Int → Prop) : Prop where
  out : K (k.wrap n)
structure wquo (k : IntKind) (a b : Int) (K : Int → Prop) : Prop where
  ne : b ≠ 0
  out : K (k.wrap (a.tdiv b))
structure wrem (a b : Int) (K : Int → Prop) : Prop where
  ne : b ≠ 0
  out : K (a.tmod b)
structure wshl (k : IntKind) (a b : Int) (K : Int → Prop) : Prop where
  nn : 0 ≤ b
  out : K (k.wrap (a * 2 ^ (min b.toNat k.bits)))
structure wshr (k : IntKind) (a b : Int) (K : Int → Prop) : Prop where
  nn : 0 ≤ b
  out : K (a.fdiv (2 ^ (min b.toNat k.bits)))

def vcBinO (op : BinOp) (x y : AV) (K : AV → Prop) : Prop :=
  match op, x, y with
  | .add, .int k a, .int k' b => if k = k' then K (.int k (k.wrap (a + b))) else False
  | .sub, .int k a, .int k' b => if k = k' then K (.int k (k.wrap (a - b))) else False
  | .mul, .int k a, .int k' b => if k = k' then K (.int k (k.wrap (a * b))) else False
  | .quo, .int k a, .int k' b => if k = k' then b ≠ 0 ∧ K (.int k (k.wrap (a.tdiv b))) else False
  | .rem, .int k a, .int k' b => if k = k' then b ≠ 0 ∧ K (.int k (a.tmod b)) else False
  | .and, .int k a, .int k' b => if k = k' then K (.int k (bits .and k a b)) else False
  | .or, .int k a, .int k' b => if k = k' then K (.int k (bits .or k a b)) else False
  | .xor, .int k a, .int k' b => if k = k' then K (.int k (bits .xor k a b)) else False
  | .andNot, .int k a, .int k' b => if k = k' then K (.int k (bits .andNot k a b)) else False
  | .shl, .int k a, .int _ b => 0 ≤ b ∧ K (.int k (k.wrap (a * 2 ^ (min b.toNat k.bits))))
  | .shr, .int k a, .int _ b => 0 ≤ b ∧ K (.int k (a.fdiv (2 ^ (min b.toNat k.bits))))
  | .eql, .int k a, .int k' b => if k = k' then K (.bool (a == b)) else False
  | .neq, .int k a, .int k' b => if k = k' then K (.bool (a != b)) else False
  | .lss, .int k a, .int k' b => if k = k' then K (.bool (decide (a < b))) else False
  | .leq, .int k a, .int k' b => if k = k' then K (.bool (decide (a ≤ b))) else False
  | .gtr, .int k a, .int k' b => if k = k' then K (.bool (decide (a > b))) else False
  | .geq, .int k a, .int k' b => if k = k' then K (.bool (decide (a ≥ b))) else False
  | .eql, .str a, .str b => K (.bool (a.toList == b.toList))
  | .neq, .str a, .str b => K (.bool !(a.toList == b.toList))
  | .lss, .str a, .str b => K (.bool (Op.bytesLess a.toList b.toList))
  | .leq, .str a, .str b => K (.bool (Op.bytesLess a.toList b.toList || a.toList == b.toList))
  | .gtr, .str a, .str b => K (.bool !(Op.bytesLess a.toList b.toList || a.toList == b.toList))
  | .geq, .str a, .str b => K (.bool !(Op.bytesLess a.toList b.toList))
  | .add, .str a, .str b => ((a.size + b.size : Nat) : Int) ≤ IntKind.i64.max ∧ K (.str (a ++ b))
  | _, _, _ => False

def vcBin (op : BinOp) (x y : AV) (K : AV → Prop) : Prop :=
  match op, x, y with
  | .add, .int k a, .int k' b => if k = k' then wnum k (a + b) (fun r => K (.int k r)) else False
  | .sub, .int k a, .int k' b => if k = k' then wnum k (a - b) (fun r => K (.int k r)) else False
  | .mul, .int k a, .int k' b => if k = k' then wnum k (a * b) (fun r => K (.int k r)) else False
  | .quo, .int k a, .int k' b => if k = k' then wquo k a b (fun r => K (.int k r)) else False
  | .rem, .int k a, .int k' b => if k = k' then wrem a b (fun r => K (.int k r)) else False
  | .and, .int k a, .int k' b => if k = k' then K (.int k (bits .and k a b)) else False
  | .or, .int k a, .int k' b => if k = k' then K (.int k (bits .or k a b)) else False
  | .xor, .int k a, .int k' b => if k = k' then K (.int k (bits .xor k a b)) else False
  | .andNot, .int k a, .int k' b => if k = k' then K (.int k (bits .andNot k a b)) else False
  | .shl, .int k a, .int _ b => wshl k a b (fun r => K (.int k r))
  | .shr, .int k a, .int _ b => wshr k a b (fun r => K (.int k r))
  | .eql, .int k a, .int k' b => if k = k' then K (.bool (a == b)) else False
  | .neq, .int k a, .int k' b => if k = k' then K (.bool (a != b)) else False
  | .lss, .int k a, .int k' b => if k = k' then K (.bool (decide (a < b))) else False
  | .leq, .int k a, .int k' b => if k = k' then K (.bool (decide (a ≤ b))) else False
  | .gtr, .int k a, .int k' b => if k = k' then K (.bool (decide (a > b))) else False
  | .geq, .int k a, .int k' b => if k = k' then K (.bool (decide (a ≥ b))) else False
  | .eql, .str a, .str b => K (.bool (a.toList == b.toList))
  | .neq, .str a, .str b => K (.bool !(a.toList == b.toList))
  | .lss, .str a, .str b => K (.bool (Op.bytesLess a.toList b.toList))
  | .leq, .str a, .str b => K (.bool (Op.bytesLess a.toList b.toList || a.toList == b.toList))
  | .gtr, .str a, .str b => K (.bool !(Op.bytesLess a.toList b.toList || a.toList == b.toList))
  | .geq, .str a, .str b => K (.bool !(Op.bytesLess a.toList b.toList))
  | .add, .str a, .str b => ((a.size + b.size : Nat) : Int) ≤ IntKind.i64.max ∧ K (.str (a ++ b))
  | _, _, _ => False

theorem vcBin_old {op : BinOp} {x y : AV} {K : AV → Prop} (v : vcBin op x y K) : vcBinO op x y K := by
  unfold vcBin at v
  split at v <;> first
    | (exact v.elim)
    | exact v
    | (split at v
       · rename_i hk
         subst hk
         simp only [vcBinO, if_true]
         first
           | exact v.out
           | exact ⟨v.ne, v.out⟩
           | exact v
       · exact v.elim)
    | exact ⟨v.nn, v.out⟩

theorem vcBin_sound {P : Program} {w0 : Guard} {w : World} {σ : Sig} {h : Heap} (s : Sim w0 σ h w) {op : BinOp} {x y : AV} {vx vy : Value} (t : TypeId) (ox oy : Operand) {K : Cont}
    (hx : VR σ x vx) (hy : VR σ y vy) (v : vcBin op x y fun r => K r h) : Good w0 σ K ((do eqGuard op t ox oy vx vy; binOp op t vx vy : Sem Value).run P w) := by
  replace v := vcBin_old v
  unfold vcBinO at v
  split at v <;> first
    | (exact v.elim)
    | (cases hx; cases hy
       first
         | (split at v
            rotate_left
            exact v.elim
            rename_i hk; subst hk
            obtain ⟨v1, v⟩ := v
            simp only [eqGuard_at_int, Sem.run_bind, Sem.run_pure, Result.andThen_ok, binOp_quo, binOp_rem, Op.intDiv, v1, if_false]
            refine Good.same s ?_ v; exact .int _ _)
         | (split at v
            rotate_left
            exact v.elim
            rename_i hk; subst hk
            simp only [eqGuard_at_int, Sem.run_bind, Sem.run_pure, Result.andThen_ok]
            first
              | (refine Good.same s ?_ v; exact .int _ _)
              | (refine Good.same s ?_ v; exact .bool _)
              | (simp only [binOp_add, binOp_sub, binOp_mul, Op.intArith, binOp_and, binOp_or, binOp_xor, binOp_andNot, intBits_and, intBits_or, intBits_xor, intBits_andNot, binOp_eql, binOp_neq, binOp_lss, binOp_leq, binOp_gtr, binOp_geq, Sem.run_pure]
                 first | (refine Good.same s ?_ v; exact .int _ _) | (refine Good.same s ?_ v; exact .bool _)))
         | (obtain ⟨v1, v⟩ := v; simp only [eqGuard_at_int, Sem.run_bind, Sem.run_pure, Result.andThen_ok, binOp_shl, binOp_shr, Op.shift, Int.not_lt.2 v1, if_false]
            refine Good.same s ?_ v; exact .int _ _)
         | (obtain ⟨v1, v⟩ := v; simp only [eqGuard_at_string, Sem.run_bind, Sem.run_pure, Result.andThen_ok, binOp, Op.stringOp, gt_iff_lt, Int.not_lt.2 v1, if_false]
            refine Good.same s ?_ v; exact .str _)
         | (simp only [eqGuard_at_string, Sem.run_bind, Sem.run_pure, Result.andThen_ok, binOp, Op.stringOp]
            refine Good.same s ?_ v; exact .bool _))

end Go.Proofs.YtginchgkbgcimaaDoor.AL
