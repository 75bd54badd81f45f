/- A region whose order is open: any order that its edges allow comes to what the canonical one does. -/
import Derived.Test.YtginchgkbgcimaaDoorAcode
namespace Go.Proofs.YtginchgkbgcimaaDoor.AL
open Go Go.RowKit

def isPure : AOp → Bool
  | .mov _ | .pick .. | .ld .. | .bin .. | .eq .bool .. | .eq (.flat _) .. | .eq .ptr .. | .eq .func .. | .eq .iface .. | .not _ | .neg _ | .conv .. | .cid _ | .mkif .. | .mkfn .. | .fld .. | .fldv .. | .idx .. | .idxA .. | .ext .. | .len .. | .lenA .. | .mx .. | .mn .. | .nilchk _ | .build .. | .slc .. => true
  | _ => false

def AOp.opds : AOp → List Opd
  | .mov x | .asg x | .box x | .ld x _ | .nilchk x | .not x | .neg x | .conv _ x | .cid x | .mkif _ x | .fld x _ | .fldv x _ _ | .ext x _ | .len _ x | .lenA _ x | .clr x _ | .b2s x | .sdata x | .tun x | .fun_ _ _ x => [x]
  | .pick a b c => [a, b, c]
  | .alloc _ | .allocT _ _ | .bad => []
  | .build _ ps | .bslice _ _ ps => ps.map (·.2.2)
  | .st x y _ | .bin _ x y | .eq _ _ x y | .mkslice _ _ x y | .idx x y _ | .idxA x y _ _ | .app x y _ _ | .cpy x y _ | .mx x y | .mn x y | .appT x y _ _ _ | .idxv x y _ _ _ | .idxs x y | .ustr _ x y | .eqp _ x y => [x, y]
  | .mkfn _ a b => a ++ b
  | .scut x a b => x :: (a.toList ++ b.toList)
  | .slc x a b c _ => x :: (a.toList ++ b.toList ++ c.toList)
  | .call _ l => l
  | .calx _ l => l
  | .pnc x | .tas _ _ x => [x]
  | .callv x l => x :: l

theorem vcOp_congr {P : Program} {ts us : List AV} {h : Heap} {K E : Cont} {op : AOp} (e : ∀ x ∈ op.opds, ev ts x = ev us x) (v : vcOp P ts h K E op) : vcOp P us h K E op := by
  have ml : ∀ l : List Opd, (∀ x ∈ l, ev ts x = ev us x) → l.map (ev ts) = l.map (ev us) := fun l hl => List.map_congr_left hl
  have mp : ∀ ps : List (Nat × Nat × Opd), (∀ x ∈ ps.map (·.2.2), ev ts x = ev us x) → ps.map (fun p => (p.1, p.2.1, ev ts p.2.2)) = ps.map (fun p => (p.1, p.2.1, ev us p.2.2)) := by
    intro ps hp
    refine List.map_congr_left fun p hp' => ?_
    rw [hp p.2.2 (List.mem_map.2 ⟨p, hp', rfl⟩)]
  have mo : ∀ o : Option Opd, (∀ x ∈ o.toList, ev ts x = ev us x) → o.map (ev ts) = o.map (ev us) := by
    intro o ho; cases o with
    | none => rfl
    | some x => simp [ho x (by simp)]
  cases op with
  | build zs ps => simp only [vcOp] at v ⊢; rw [mp ps e] at v; exact v
  | bslice n zs ps => simp only [vcOp] at v ⊢; rw [mp ps e] at v; exact v
  | mkfn f a b => simp only [vcOp, forceVs_eq] at v ⊢; rw [ml a fun x hx => e x (by simp [AOp.opds, hx]), ml b fun x hx => e x (by simp [AOp.opds, hx])] at v; exact v
  | slc x a b c n => simp only [vcOp] at v ⊢; rw [e x (by simp [AOp.opds]), mo a fun x hx => e x (by simp [AOp.opds] at hx ⊢; simp [hx]), mo b fun x hx => e x (by simp [AOp.opds] at hx ⊢; simp [hx]), mo c fun x hx => e x (by simp [AOp.opds] at hx ⊢; simp [hx])] at v; exact v
  | scut x a b => simp only [vcOp] at v ⊢; rw [e x (by simp [AOp.opds]), mo a fun x hx => e x (by simp [AOp.opds] at hx ⊢; simp [hx]), mo b fun x hx => e x (by simp [AOp.opds] at hx ⊢; simp [hx])] at v; exact v
  | call f l => simp only [vcOp] at v ⊢; rw [ml l e] at v; exact v
  | calx f l => simp only [vcOp] at v ⊢; rw [ml l e] at v; exact v
  | callv x l => simp only [vcOp] at v ⊢; rw [e x (by simp [AOp.opds]), ml l fun x hx => e x (by simp [AOp.opds, hx])] at v; exact v
  | _ => simp_all [vcOp, AOp.opds]

/-- What a pure operation comes to, whatever goes on behind it. -/
def PureVal (P : Program) (ts : List AV) (h : Heap) (op : AOp) (v : AV) : Prop := ∀ K E : Cont, K v h → vcOp P ts h K E op

theorem bin_pure {op : BinOp} {x y : AV} {K : AV → Prop} (v : vcBin op x y K) : ∃ r, K r ∧ ∀ K' : AV → Prop, K' r → vcBin op x y K' := by
  unfold vcBin at v ⊢
  split at v <;> first
    | (exact v.elim)
    | (exact ⟨_, v, fun K' k => k⟩)
    | (split at v
       · rename_i hk
         subst hk
         first
           | (exact ⟨_, v.out, fun K' k => by simp only [if_true]; exact ⟨k⟩⟩)
           | (exact ⟨_, v.out, fun K' k => by simp only [if_true]; exact ⟨v.ne, k⟩⟩)
           | (exact ⟨_, v.2, fun K' k => by simp only [if_true]; exact ⟨v.1, k⟩⟩)
           | (exact ⟨_, v, fun K' k => by simp only [if_true]; exact k⟩)
       · exact v.elim)
    | (exact ⟨_, v.2, fun K' k => ⟨v.1, k⟩⟩)
    | (exact ⟨_, v.out, fun K' k => ⟨v.nn, k⟩⟩)

theorem slc_pure {h : Heap} {x : AV} {lo hi mx : Option AV} {size : Nat} {K : AV → Prop} (v : vcSlc h x lo hi mx size K) : ∃ r, K r ∧ ∀ K' : AV → Prop, K' r → vcSlc h x lo hi mx size K' := by
  simp only [vcSlc, exK_eq] at v ⊢
  split at v
  · split at v
    · rename_i l u m _ _ _
      obtain ⟨v1, v2⟩ := v
      obtain ⟨cs, op, hi, v2⟩ := withRead_elim v2
      obtain ⟨q1, q2⟩ := req_elim v2
      by_cases e : m = l
      · exact ⟨_, q2.eq e, fun K' k => ⟨v1, withRead_mk hi (req_mk q1 ⟨fun _ => k, fun q => absurd e (by omega)⟩)⟩⟩
      · exact ⟨_, q2.lt (by omega), fun K' k => ⟨v1, withRead_mk hi (req_mk q1 ⟨fun q => absurd q e, fun _ => k⟩)⟩⟩
    · exact v.elim
  · split at v
    · exact ⟨_, v.2.2.out, fun K' k => ⟨v.1, v.2.1, ⟨k⟩⟩⟩
    · exact v.elim
  · split at v
    · exact ⟨_, v.2.2.2, fun K' k => ⟨v.1, v.2.1, v.2.2.1, k⟩⟩
    · exact v.elim
  · exact v.elim

theorem pure_val {P : Program} {ts : List AV} {h : Heap} {K E : Cont} {op : AOp} (hp : isPure op = true) (v : vcOp P ts h K E op) : ∃ r, K r h ∧ PureVal P ts h op r := by
  unfold PureVal
  cases op <;> first | (simp [isPure] at hp; done) | skip
  case mov x => exact ⟨_, v, fun K E k => k⟩
  case pick a b c =>
    simp only [vcOp] at v ⊢
    split at v
    · rename_i q _
      cases q
      · exact ⟨_, v, fun K E k => k⟩
      · exact ⟨_, v, fun K E k => k⟩
    · exact v.elim
  case build zs ps =>
    have q2 := (req_elim v).2
    rw [fillK_eq] at q2
    exact ⟨_, q2, fun K E k => req_mk (req_elim v).1 (by rw [fillK_eq]; exact k)⟩
  case ld x n =>
    simp only [vcOp] at v ⊢
    have key : ∀ cs k, vcLoadC cs k n (fun r => K r h) → ∃ r, K r h ∧ ∀ K' : AV → Prop, K' r → vcLoadC cs k n K' := by
      intro cs k q
      unfold vcLoadC at q ⊢
      split at q
      · split at q
        · exact ⟨_, q, fun K' k => k⟩
        · exact q.elim
      · have q2 := (req_elim q).2
        rw [forceL_eq] at q2
        exact ⟨_, q2, fun K' k => req_mk (req_elim q).1 (by rw [forceL_eq]; exact k)⟩
    unfold vcLoad at v ⊢
    split at v
    · obtain ⟨cs0, op0, hi0, v⟩ := withRead_elim v
      obtain ⟨r, h1, h2⟩ := key _ _ v
      exact ⟨r, h1, fun K' E k => withRead_mk hi0 (h2 (fun r => K' r h) k)⟩
    · obtain ⟨r, h1, h2⟩ := key _ _ v
      exact ⟨r, h1, fun K' E k => h2 (fun r => K' r h) k⟩
    · obtain ⟨cs0, op0, hi0, v⟩ := withRead_elim v
      obtain ⟨r, h1, h2⟩ := key _ _ v.out
      exact ⟨r, h1, fun K' E k => withRead_mk hi0 ⟨h2 (fun r => K' r h) k⟩⟩
    · exact v.elim
  case nilchk x => simp only [vcOp] at v ⊢; split at v <;> first | exact v.elim | exact ⟨_, v, fun K E k => k⟩
  case bin op x y =>
    obtain ⟨r, h1, h2⟩ := bin_pure (K := fun r => K r h) v
    exact ⟨r, h1, fun K' E k => h2 (fun r => K' r h) k⟩
  case eq cls neg x y =>
    simp only [vcOp] at v ⊢
    cases cls <;> first | (simp [isPure] at hp; done) | skip
    all_goals
      simp only [vcEq] at v ⊢
      split at v <;> first
        | exact v.elim
        | exact ⟨_, v, fun K E k => k⟩
        | (split at v
           · exact ⟨_, v, fun K E k => k⟩
           · exact v.elim)
  case not x => simp only [vcOp] at v ⊢; split at v <;> first | exact v.elim | exact ⟨_, v, fun K E k => k⟩
  case neg x => simp only [vcOp] at v ⊢; split at v <;> first | exact v.elim | exact ⟨_, v.out, fun K E k => ⟨k⟩⟩
  case conv k x => simp only [vcOp] at v ⊢; split at v <;> first | exact v.elim | exact ⟨_, v.out, fun K E k => ⟨k⟩⟩
  case cid x => simp only [vcOp] at v ⊢; split at v <;> first | exact v.elim | exact ⟨_, v, fun K E k => k⟩
  case mkif t x => exact ⟨_, v, fun K E k => k⟩
  case mkfn f a b => simp only [vcOp, forceVs_eq] at v ⊢; exact ⟨_, v, fun K E k => k⟩
  case fld x o => simp only [vcOp, vcFld] at v ⊢; split at v <;> first | exact v.elim | exact ⟨_, v, fun K E k => k⟩
  case fldv x o n =>
    simp only [vcOp, vcPart] at v ⊢
    split at v
    · split at v
      · exact ⟨_, v, fun K E k => k⟩
      · exact v.elim
    · have q2 := (req_elim v).2
      rw [forceL_eq] at q2
      exact ⟨_, q2, fun K E k => req_mk (req_elim v).1 (by rw [forceL_eq]; exact k)⟩
    · exact v.elim
  case idx x i n => simp only [vcOp, vcIdx] at v ⊢; split at v <;> first | exact v.elim | exact ⟨_, v.2, fun K E k => ⟨v.1, k⟩⟩ | exact ⟨_, v.2.out, fun K E k => ⟨v.1, v.2.len, k⟩⟩
  case idxA x i n l => simp only [vcOp, vcIdxA] at v ⊢; split at v <;> first | exact v.elim | exact ⟨_, v.2, fun K E k => ⟨v.1, k⟩⟩ | exact ⟨_, v.2.out, fun K E k => ⟨v.1, v.2.len, k⟩⟩
  case ext x i =>
    simp only [vcOp, vcExt] at v ⊢
    split at v
    · split at v
      · exact ⟨_, v, fun K E k => k⟩
      · exact v.elim
    · exact v.elim
  case len s x => simp only [vcOp] at v ⊢; split at v <;> first | exact v.elim | exact ⟨_, v, fun K E k => k⟩
  case lenA n x => exact ⟨_, v, fun K E k => k⟩
  case mx x y => simp only [vcOp] at v ⊢; split at v <;> first | exact v.elim | exact ⟨_, v, fun K E k => k⟩
  case mn x y => simp only [vcOp] at v ⊢; split at v <;> first | exact v.elim | exact ⟨_, v, fun K E k => k⟩
  case slc x lo hi mx size =>
    simp only [vcOp] at v ⊢
    obtain ⟨r, h1, h2⟩ := slc_pure (K := fun r => K r h) v
    exact ⟨r, h1, fun K' E k => h2 (fun r => K' r h) k⟩

def isLd : AOp → Bool | .ld .. => true | .slc .. => true | _ => false

/-- A cut of an object that may be read: its elements have the size of the list's. -/
def slK (h : Heap) (x : AV) (size : Nat) (X : Prop) : Prop := match x with | .slice i _ _ _ => withRead h[i]? fun _ op => req (opnFit op size) X | _ => X
theorem slK_elim {h : Heap} {x : AV} {size : Nat} {X : Prop} (v : slK h x size X) : slK h x size True ∧ X := by
  unfold slK at v ⊢
  split at v
  · obtain ⟨cs, op, hi, v⟩ := withRead_elim v
    exact ⟨withRead_mk hi (req_mk (req_elim v).1 trivial), (req_elim v).2⟩
  · exact ⟨trivial, v⟩
theorem slK_of {h : Heap} {x : AV} {lo hi mx : Option AV} {size : Nat} {K : AV → Prop} (v : vcSlc h x lo hi mx size K) : slK h x size True := by
  simp only [vcSlc, exK_eq] at v
  unfold slK
  split at v
  · split at v
    · obtain ⟨cs, op, hi, v⟩ := withRead_elim v.2
      exact withRead_mk hi (req_mk (req_elim v).1 trivial)
    · exact v.elim
  · trivial
  · trivial
  · exact v.elim
theorem slK_vc {h h' : Heap} {x : AV} {lo hi mx : Option AV} {size : Nat} {K : AV → Prop} (v : vcSlc h x lo hi mx size K) (q : slK h' x size True) : vcSlc h' x lo hi mx size K := by
  simp only [vcSlc, exK_eq] at v ⊢
  unfold slK at q
  split at v
  · split at v
    · simp only at q
      obtain ⟨cs, op, hi, v2⟩ := withRead_elim v.2
      obtain ⟨cs', op', hi', q⟩ := withRead_elim q
      exact ⟨v.1, withRead_mk hi' (req_mk (req_elim q).1 (req_elim v2).2)⟩
    · exact v.elim
  · exact v
  · exact v
  · exact v.elim

/-- But for loads, the heap is of no matter. -/
theorem PureVal.heap {P : Program} {ts : List AV} {h h' : Heap} {op : AOp} {v : AV} (hp : isPure op = true) (hl : isLd op = false) (p : PureVal P ts h op v) : PureVal P ts h' op v := by
  intro K E k
  have q := p (fun r _ => K r h') (fun r _ => E r h') k
  cases op <;> first | (simp [isPure] at hp; done) | (simp [isLd] at hl; done) | skip
  all_goals exact q

/-! ### the region -/
def direct (os : Array Oper) (i j : Nat) : Bool := match os[i]? with | some o => o.after.any fun e => Region.binds .any e && e.on == j | none => false

def reach (os : Array Oper) : Nat → Nat → Nat → Bool
  | 0, i, j => direct os i j
  | n + 1, i, j => direct os i j || (match os[i]? with | some o => o.after.any fun e => Region.binds .any e && reach os n e.on j | none => false)

/-- Which operations come behind one of them, reckoned from the first on. -/
def rset (tgt : Nat) : List Oper → List Bool → List Bool
  | [], acc => acc
  | o :: os, acc => rset tgt os (acc ++ [o.after.any fun e => Region.binds .any e && (e.on == tgt || acc.getD e.on false)])

def readsOf (o : AOper) : List Nat := (o.op.opds.filterMap fun | .t n => some n | _ => none) ++ (match o.g with | some (t, _) => [t] | none => [])

/-- In which orders the operations of a region come: a pure one (where it is reckoned), or whichever of some effects runs first. -/
inductive DT where
  | nil
  | stop
  | pure (i : Nat) (t : DT)
  | alt (i : Nat) (t more : DT)

def DT.heads : DT → List Nat
  | .alt i _ more => i :: more.heads
  | _ => []

def stepOk (os : Array Oper) (done : List Nat) (i : Nat) : Bool := (match os[i]? with | some o => o.after.all fun e => !Region.binds .any e || done.contains e.on | none => false) && !done.contains i

def chkCov (os : Array Oper) (done H : List Nat) : Bool :=
  let S := H.map fun e => rset e os.toList []
  (List.range os.size).all fun x => done.contains x || H.contains x || S.any fun s => s.getD x false

def chkDT (os : Array Oper) (ops : List AOper) : Bool → List Nat → DT → Bool
  | b, done, .nil => !b && (List.range os.size).all fun i => done.contains i
  | b, _, .stop => b
  | b, done, .pure i t => !b && (match ops[i]? with | some o => isPure o.op | none => false) && stepOk os done i && chkDT os ops false (i :: done) t
  | b, done, .alt i t more => (match ops[i]? with | some o => !isPure o.op | none => false) && stepOk os done i && chkDT os ops false (i :: done) t && chkDT os ops true done more && (b || chkCov os done (i :: more.heads))

def chkDst (os : Array Oper) (ops : List AOper) : Bool :=
  (List.range ops.length).all fun i => (List.range ops.length).all fun j =>
    (match ops[i]?, ops[j]? with
     | some a, some b => (match b.d with | some d => (!(readsOf a).contains d || (i != j && direct os i j) || (!isPure b.op && direct os j i)) && (i == j || a.d != some d) | none => !isPure b.op)
     | _, _ => false)

def chkDraw (os : Array Oper) (dir : List (Nat × Nat)) (ops : List AOper) (ord : DT) : Bool :=
  (dir.all fun p => (rset p.2 os.toList []).getD p.1 false) && chkDT os ops false [] ord && chkDst os ops &&
    (List.range ops.length).all fun i => match os[i]? with | some o => o.after.all fun e => !Region.binds .any e || decide (e.on < i) | none => false

/-- The loads that were read before, and that may come behind an operation, read the same behind it. -/
def loose (dir : List (Nat × Nat)) (ops : List AOper) (i : Nat) (ts : List AV) (h : Heap) : List Nat → Prop
  | [] => True
  | p :: ps => (match ops[p]? with
      | some ⟨g, some d, .ld x n⟩ => if dir.contains (i, p) = true then True else (match g with | some (t, b) => tget ts t = .bool b → vcLoad h (ev ts x) n (fun v => v = tget ts d) | none => vcLoad h (ev ts x) n (fun v => v = tget ts d))
      | some ⟨g, some _, .slc x _ _ _ n⟩ => if dir.contains (i, p) = true then True else (match g with | some (t, b) => tget ts t = .bool b → slK h (ev ts x) n True | none => slK h (ev ts x) n True)
      | _ => True) ∧ loose dir ops i ts h ps

/-- An equality and what goes on behind it. -/
structure both (p q : Prop) : Prop where
  fst : p
  snd : q
theorem both_iff (p q : Prop) : both p q ↔ p ∧ q := ⟨fun h => ⟨h.fst, h.snd⟩, fun h => ⟨h.1, h.2⟩⟩
theorem both_mk {p q : Prop} (h : p) (k : q) : both p q := ⟨h, k⟩

/-- The same, one behind the other. -/
noncomputable def looseC (dir : List (Nat × Nat)) (ops : List AOper) (i : Nat) (ts : List AV) (h : Heap) (X : Prop) : List Nat → Prop
  | [] => X
  | p :: ps => match ops[p]? with
      | some ⟨g, some d, .ld x n⟩ => (match dir.contains (i, p) with
        | true => looseC dir ops i ts h X ps
        | false => (match g with
          | some (t, b) => (match tget ts t with
            | .bool c => (match b with
              | true => bcase c (vcLoad h (ev ts x) n (fun v => both (v = tget ts d) (looseC dir ops i ts h X ps))) (looseC dir ops i ts h X ps)
              | false => bcase c (looseC dir ops i ts h X ps) (vcLoad h (ev ts x) n (fun v => both (v = tget ts d) (looseC dir ops i ts h X ps))))
            | _ => False)
          | none => vcLoad h (ev ts x) n (fun v => both (v = tget ts d) (looseC dir ops i ts h X ps))))
      | some ⟨g, some _, .slc x _ _ _ n⟩ => (match dir.contains (i, p) with
        | true => looseC dir ops i ts h X ps
        | false => (match g with
          | some (t, b) => (match tget ts t with
            | .bool c => (match b with
              | true => bcase c (slK h (ev ts x) n (looseC dir ops i ts h X ps)) (looseC dir ops i ts h X ps)
              | false => bcase c (looseC dir ops i ts h X ps) (slK h (ev ts x) n (looseC dir ops i ts h X ps)))
            | _ => False)
          | none => slK h (ev ts x) n (looseC dir ops i ts h X ps)))
      | _ => looseC dir ops i ts h X ps

theorem load_both {h : Heap} {x : AV} {n : Option Nat} {u : AV} {X : Prop} (v : vcLoad h x n (fun v => both (v = u) X)) : vcLoad h x n (fun v => v = u) ∧ X := by
  have key : ∀ cs k, vcLoadC cs k n (fun v => both (v = u) X) → vcLoadC cs k n (fun v => v = u) ∧ X := by
    intro cs k q
    unfold vcLoadC at q ⊢
    split at q
    · split at q
      · exact (both_iff _ _).1 q
      · exact q.elim
    · have q2 := (req_elim q).2
      rw [forceL_eq, both_iff] at q2
      exact ⟨req_mk (req_elim q).1 (by rw [forceL_eq]; exact q2.1), q2.2⟩
  unfold vcLoad at v ⊢
  split at v
  · obtain ⟨cs0, op0, hi0, v⟩ := withRead_elim v
    exact ⟨withRead_mk hi0 (key _ _ v).1, (key _ _ v).2⟩
  · exact key _ _ v
  · obtain ⟨cs0, op0, hi0, v⟩ := withRead_elim v
    exact ⟨withRead_mk hi0 ⟨(key _ _ v.out).1⟩, (key _ _ v.out).2⟩
  · exact v.elim

theorem looseC_elim {dir : List (Nat × Nat)} {ops : List AOper} {i : Nat} {ts : List AV} {h : Heap} {X : Prop} : ∀ {done : List Nat}, looseC dir ops i ts h X done → loose dir ops i ts h done ∧ X
  | [], v => ⟨trivial, v⟩
  | p :: ps, v => by
    unfold looseC at v
    unfold loose
    split at v
    · rename_i g d x n ho
      split at v
      · rename_i hd
        have := looseC_elim v
        exact ⟨⟨by rw [if_pos hd]; trivial, this.1⟩, this.2⟩
      · rename_i hd
        rw [if_neg (by rw [hd]; simp)]
        cases g with
        | none =>
          simp only at v
          have q := load_both v
          have := looseC_elim q.2
          exact ⟨⟨q.1, this.1⟩, this.2⟩
        | some tb =>
          obtain ⟨t, b⟩ := tb
          simp only at v ⊢
          split at v
          · rename_i c hc
            cases b <;> cases c <;> simp only [bcase] at v
            · have q := load_both v
              have := looseC_elim q.2
              exact ⟨⟨fun _ => q.1, this.1⟩, this.2⟩
            · have := looseC_elim v
              exact ⟨⟨fun e => (by rw [hc] at e; cases e), this.1⟩, this.2⟩
            · have := looseC_elim v
              exact ⟨⟨fun e => (by rw [hc] at e; cases e), this.1⟩, this.2⟩
            · have q := load_both v
              have := looseC_elim q.2
              exact ⟨⟨fun _ => q.1, this.1⟩, this.2⟩
          · exact v.elim
    · rename_i g d x lo hi mx n ho
      split at v
      · rename_i hd
        have := looseC_elim v
        exact ⟨⟨by rw [if_pos hd]; trivial, this.1⟩, this.2⟩
      · rename_i hd
        rw [if_neg (by rw [hd]; simp)]
        cases g with
        | none =>
          simp only at v
          have q := slK_elim v
          have := looseC_elim q.2
          exact ⟨⟨q.1, this.1⟩, this.2⟩
        | some tb =>
          obtain ⟨t, b⟩ := tb
          simp only at v ⊢
          split at v
          · rename_i c hc
            cases b <;> cases c <;> simp only [bcase] at v
            · have q := slK_elim v
              have := looseC_elim q.2
              exact ⟨⟨fun _ => q.1, this.1⟩, this.2⟩
            · have := looseC_elim v
              exact ⟨⟨fun e => (by rw [hc] at e; cases e), this.1⟩, this.2⟩
            · have := looseC_elim v
              exact ⟨⟨fun e => (by rw [hc] at e; cases e), this.1⟩, this.2⟩
            · have q := slK_elim v
              have := looseC_elim q.2
              exact ⟨⟨fun _ => q.1, this.1⟩, this.2⟩
          · exact v.elim
    · have := looseC_elim v
      exact ⟨⟨trivial, this.1⟩, this.2⟩

/-- One operation of a region whose order is open, and what goes on behind it. -/
noncomputable def dstep (P : Program) (dir : List (Nat × Nat)) (ops : List AOper) (i : Nat) (done : List Nat) (N : List AV → Heap → Prop) (ts : List AV) (h : Heap) : Prop :=
  match ops[i]? with
    | none => False
    | some o =>
      let run (ts : List AV) : Prop := vcOp P ts h (fun v h' => match isPure o.op with | true => stepK ts o.d v fun ts => hid (N ts h') | false => looseC dir ops i ts h' (stepK ts o.d v fun ts => hid (N ts h')) done) (fun _ _ => False) o.op
      let skip (ts : List AV) : Prop := stepK ts o.d (.tup []) fun ts => hid (N ts h)
      match o.g with
      | none => run ts
      | some (t, b) => match tget ts t with
        | .bool c => (match b with
          | true => bcase c (forceL (tset ts t (.bool true)) run) (forceL (tset ts t (.bool false)) skip)
          | false => bcase c (forceL (tset ts t (.bool true)) skip) (forceL (tset ts t (.bool false)) run))
        | .tup _ => skip ts
        | _ => False

/-- One of several ways, and the others. -/
structure alts (p q : Prop) : Prop where
  fst : p
  snd : q
theorem alts_mk {p q : Prop} (h : p) (k : q) : alts p q := ⟨h, k⟩

noncomputable def vcDraw (P : Program) (dir : List (Nat × Nat)) (ops : List AOper) (K : List AV → Heap → Prop) : DT → List Nat → List AV → Heap → Prop
  | .nil, _, ts, h => K ts h
  | .stop, _, _, _ => True
  | .pure i t, done, ts, h => dstep P dir ops i done (fun ts h => vcDraw P dir ops K t (i :: done) ts h) ts h
  | .alt i t more, done, ts, h => match more with
    | .stop => dstep P dir ops i done (fun ts h => vcDraw P dir ops K t (i :: done) ts h) ts h
    | _ => alts (hid (dstep P dir ops i done (fun ts h => vcDraw P dir ops K t (i :: done) ts h) ts h)) (hid (vcDraw P dir ops K more done ts h))

/-- What an operation of a region whose order is open hands on. -/
noncomputable def drawK (dir : List (Nat × Nat)) (ops : List AOper) (N : List AV → Heap → Prop) (i : Nat) (done : List Nat) (ts : List AV) (o : AOper) : Cont := fun v h' =>
  match isPure o.op with | true => N (aput ts o.d v) h' | false => looseC dir ops i ts h' (N (aput ts o.d v) h') done

theorem dstep_cons {P : Program} {dir : List (Nat × Nat)} {ops : List AOper} {N : List AV → Heap → Prop} {i : Nat} {done : List Nat} {ts : List AV} {h : Heap} {o : AOper} (ho : ops[i]? = some o) (v : dstep P dir ops i done N ts h) :
    ((∀ t b, o.g = some (t, b) → tget ts t = .bool b) ∧ vcOp P ts h (drawK dir ops N i done ts o) (fun _ _ => False) o.op) ∨
    ((∃ t b, o.g = some (t, b) ∧ Off b (tget ts t)) ∧ N (aput ts o.d (.tup [])) h) := by
  simp only [dstep, ho] at v
  cases hg : o.g with
  | none =>
    rw [hg] at v
    simp only [stepK_eq, hid_eq] at v
    exact .inl ⟨(by intro t b e; cases e), v⟩
  | some tb =>
    obtain ⟨t, b⟩ := tb
    rw [hg] at v
    simp only at v
    split at v
    · rename_i c hc
      cases b <;> cases c <;> simp only [bcase, forceL_eq, tset_self ts t _ hc (by simp), stepK_eq, hid_eq] at v
      · exact .inl ⟨(by intro t' b' e; cases e; exact hc), v⟩
      · exact .inr ⟨⟨t, false, rfl, .inl hc⟩, v⟩
      · exact .inr ⟨⟨t, true, rfl, .inl hc⟩, v⟩
      · exact .inl ⟨(by intro t' b' e; cases e; exact hc), v⟩
    · rename_i l hc
      simp only [stepK_eq, hid_eq] at v
      exact .inr ⟨⟨t, b, rfl, .inr ⟨l, hc⟩⟩, v⟩
    · exact v.elim

theorem stepOk_spec {os : Array Oper} {done : List Nat} {i : Nat} (h : stepOk os done i = true) : (∃ o, os[i]? = some o ∧ ∀ e ∈ o.after.toList, Region.binds .any e = true → e.on ∈ done) ∧ i ∉ done := by
  simp only [stepOk, Bool.and_eq_true, Bool.not_eq_true'] at h
  obtain ⟨h1, h2⟩ := h
  refine ⟨?_, fun hm => by rw [List.contains_iff_mem.2 hm] at h2; cases h2⟩
  cases ho : os[i]? with
  | none => rw [ho] at h1; simp at h1
  | some o =>
    rw [ho] at h1
    simp only [Array.all_eq_true', Bool.or_eq_true, Bool.not_eq_true', List.contains_iff_mem] at h1
    refine ⟨o, rfl, fun e he hb => ?_⟩
    rcases h1 e (by simpa using he) with q | q
    · rw [hb] at q; cases q
    · exact q

/-- One of the effects that may come first. -/
theorem DT.branch {P : Program} {os : Array Oper} {dir : List (Nat × Nat)} {ops : List AOper} {K : List AV → Heap → Prop} {done : List Nat} {ts : List AV} {h : Heap} {i : Nat} : ∀ {t : DT} {b : Bool}, chkDT os ops b done t = true → i ∈ t.heads → vcDraw P dir ops K t done ts h →
    ∃ u, (∃ o, ops[i]? = some o ∧ isPure o.op = false) ∧ stepOk os done i = true ∧ chkDT os ops false (i :: done) u = true ∧ dstep P dir ops i done (fun ts h => vcDraw P dir ops K u (i :: done) ts h) ts h
  | .nil, _, _, hi, _ => by simp [heads] at hi
  | .stop, _, _, hi, _ => by simp [heads] at hi
  | .pure _ _, _, _, hi, _ => by simp [heads] at hi
  | .alt k u more, b, hc, hi, v => by
    simp only [chkDT, Bool.and_eq_true] at hc
    obtain ⟨⟨⟨⟨h1, h2⟩, h3⟩, h4⟩, _⟩ := hc
    have hv : dstep P dir ops k done (fun ts h => vcDraw P dir ops K u (k :: done) ts h) ts h ∧ vcDraw P dir ops K more done ts h := by
      cases more with
      | stop => exact ⟨v, trivial⟩
      | nil => exact ⟨(hid_iff _).1 v.fst, (hid_iff _).1 v.snd⟩
      | pure _ _ => exact ⟨(hid_iff _).1 v.fst, (hid_iff _).1 v.snd⟩
      | alt _ _ _ => exact ⟨(hid_iff _).1 v.fst, (hid_iff _).1 v.snd⟩
    by_cases e : i = k
    · subst e
      refine ⟨u, ?_, h2, h3, hv.1⟩
      cases ho : ops[i]? with
      | none => rw [ho] at h1; simp at h1
      | some o => rw [ho] at h1; exact ⟨o, rfl, by simpa using h1⟩
    · have hi' : i ∈ more.heads := by
        simp only [heads, List.mem_cons] at hi
        rcases hi with q | q
        · exact absurd q e
        · exact q
      exact branch h4 hi' hv.2

theorem DT.fresh {os : Array Oper} {ops : List AOper} {done : List Nat} {i : Nat} : ∀ {t : DT} {b : Bool}, chkDT os ops b done t = true → i ∈ t.heads → i ∉ done
  | .nil, _, _, hi => by simp [heads] at hi
  | .stop, _, _, hi => by simp [heads] at hi
  | .pure _ _, _, _, hi => by simp [heads] at hi
  | .alt k u more, b, hc, hi => by
    simp only [chkDT, Bool.and_eq_true] at hc
    obtain ⟨⟨⟨⟨_, h2⟩, _⟩, h4⟩, _⟩ := hc
    simp only [heads, List.mem_cons] at hi
    rcases hi with rfl | hi
    · exact (stepOk_spec h2).2
    · exact fresh h4 hi

/-- Where an operation's slots stand. -/
theorem ev_aput {ts : List AV} {d : Option Nat} {v : AV} {x : Opd} (h : ∀ n, x = .t n → d ≠ some n) : ev (aput ts d v) x = ev ts x := by
  cases x with
  | c v => rfl
  | t n =>
    cases d with
    | none => rfl
    | some m =>
      have hne : m ≠ n := fun e => h n rfl (by rw [e])
      simp only [ev, aput, tget_eq, tset_eq, List.getElem?_set_ne hne]

/-- The slots of a list of operations made unknown. -/
def masked (ops : List AOper) (ts : List AV) : List Nat → List AV
  | [] => ts
  | i :: r => match ops[i]? with | some o => masked ops (aput ts o.d .wild) r | none => masked ops ts r

theorem tget_aput (ts : List AV) (d : Option Nat) (v : AV) (n : Nat) (h : d ≠ some n) : tget (aput ts d v) n = tget ts n := by
  cases d with
  | none => rfl
  | some m =>
    have hne : m ≠ n := fun e => h (by rw [e])
    simp only [aput, tget_eq, tset_eq, List.getElem?_set_ne hne]

theorem masked_get (ops : List AOper) (n : Nat) : ∀ (l : List Nat) (ts : List AV), (∀ i ∈ l, ∀ o, ops[i]? = some o → o.d ≠ some n) → tget (masked ops ts l) n = tget ts n
  | [], ts, _ => rfl
  | i :: r, ts, h => by
    simp only [masked]
    split
    · rename_i o ho
      rw [masked_get ops n r _ (fun j hj => h j (by simp [hj])), tget_aput _ _ _ _ (h i (by simp) o ho)]
    · exact masked_get ops n r _ (fun j hj => h j (by simp [hj]))

/-- The set of the operations that have run. -/
abbrev Ran (listed : Array Bool) (i : Nat) : Prop := listed.getD i false = true

theorem reach_ran {os : Array Oper} {listed : Array Bool} (hcl : ∀ i o, Ran listed i → os[i]? = some o → ∀ e ∈ o.after.toList, Region.binds .any e = true → Ran listed e.on) : ∀ (n i j : Nat) (o : Oper), os[i]? = some o →
    (∀ e ∈ o.after.toList, Region.binds .any e = true → Ran listed e.on) → reach os n i j = true → Ran listed j := by
  have dir : ∀ (i j : Nat) (o : Oper), os[i]? = some o → (∀ e ∈ o.after.toList, Region.binds .any e = true → Ran listed e.on) → direct os i j = true → Ran listed j := by
    intro i j o ho hr hd
    simp only [direct, ho, Array.any_eq_true'] at hd
    obtain ⟨e, he, hb⟩ := hd
    simp only [Bool.and_eq_true, beq_iff_eq] at hb
    rw [← hb.2]
    exact hr e (by simpa using he) hb.1
  intro n
  induction n with
  | zero => intro i j o ho hr h; exact dir i j o ho hr h
  | succ n ih =>
    intro i j o ho hr h
    simp only [reach, Bool.or_eq_true] at h
    rcases h with h | h
    · exact dir i j o ho hr h
    · simp only [ho, Array.any_eq_true'] at h
      obtain ⟨e, he, hb⟩ := h
      simp only [Bool.and_eq_true] at hb
      have hre := hr e (by simpa using he) hb.1
      cases hoe : os[e.on]? with
      | none =>
        exfalso
        cases n <;> simp [reach, direct, hoe] at hb
      | some o' => exact ih e.on j o' hoe (fun e' he' hb' => hcl e.on o' hre hoe e' he' hb') hb.2

theorem rset_spec (tgt : Nat) : ∀ (os : List Oper) (acc : List Bool) (all : List Oper), all.drop acc.length = os →
    (∀ i, acc.getD i false = true → ∃ o, all[i]? = some o ∧ ∃ e ∈ o.after.toList, Region.binds .any e = true ∧ (e.on = tgt ∨ (e.on < i ∧ acc.getD e.on false = true))) →
    ∀ i, (rset tgt os acc).getD i false = true → ∃ o, all[i]? = some o ∧ ∃ e ∈ o.after.toList, Region.binds .any e = true ∧ (e.on = tgt ∨ (e.on < i ∧ (rset tgt os acc).getD e.on false = true))
  | [], acc, all, _, h => h
  | o :: os, acc, all, hd, h => by
    have hlt : acc.length < all.length := by
      have := congrArg List.length hd
      simp at this; omega
    have ho : all[acc.length]? = some o := by
      have := congrArg (fun l => l[0]?) hd
      simpa using this
    refine rset_spec tgt os _ all ?_ ?_
    · have := congrArg List.tail hd
      simpa [List.tail_drop] using this
    · have old : ∀ k, k < acc.length → (acc ++ [o.after.any fun e => Region.binds .any e && (e.on == tgt || acc.getD e.on false)]).getD k false = acc.getD k false := by
        intro k hk
        simp [List.getD_eq_getElem?_getD, List.getElem?_append_left hk]
      intro i hi
      by_cases hil : i < acc.length
      · rw [old i hil] at hi
        obtain ⟨o', h1, e, h2, h3, h4⟩ := h i hi
        refine ⟨o', h1, e, h2, h3, ?_⟩
        rcases h4 with h4 | ⟨h4, h5⟩
        · exact .inl h4
        · exact .inr ⟨h4, by rw [old e.on (by omega)]; exact h5⟩
      · by_cases hie : i = acc.length
        · subst hie
          rw [List.getD_eq_getElem?_getD, List.getElem?_append_right (Nat.le_refl _), Nat.sub_self] at hi
          simp only [List.getElem?_cons_zero, Option.getD_some, Array.any_eq_true', Bool.and_eq_true, Bool.or_eq_true, beq_iff_eq] at hi
          obtain ⟨e, he, hb, hq⟩ := hi
          refine ⟨o, ho, e, by simpa using he, hb, ?_⟩
          rcases hq with hq | hq
          · exact .inl hq
          · have hlt' : e.on < acc.length := by
              rcases Nat.lt_or_ge e.on acc.length with q | q
              · exact q
              · rw [List.getD_eq_getElem?_getD, List.getElem?_eq_none q] at hq; simp at hq
            exact .inr ⟨hlt', by rw [old e.on hlt']; exact hq⟩
        · exfalso
          rw [List.getD_eq_getElem?_getD, List.getElem?_eq_none (by simp; omega)] at hi
          simp at hi

theorem rset_ran {os : Array Oper} {listed : Array Bool} (hcl : ∀ i o, Ran listed i → os[i]? = some o → ∀ e ∈ o.after.toList, Region.binds .any e = true → Ran listed e.on) {tgt : Nat} : ∀ (i : Nat) (o : Oper), os[i]? = some o →
    (∀ e ∈ o.after.toList, Region.binds .any e = true → Ran listed e.on) → (rset tgt os.toList []).getD i false = true → Ran listed tgt := by
  intro i
  induction i using Nat.strongRecOn with
  | _ i ih =>
    intro o ho hr h
    obtain ⟨o', h1, e, h2, h3, h4⟩ := rset_spec tgt os.toList [] os.toList (by simp) (by intro i h; simp at h) i h
    have : o' = o := by rw [Array.getElem?_toList] at h1; rw [ho] at h1; cases h1; rfl
    subst this
    have hre := hr e h2 h3
    rcases h4 with h4 | ⟨h4, h5⟩
    · rw [← h4]; exact hre
    · obtain ⟨o2, g1, _⟩ := rset_spec tgt os.toList [] os.toList (by simp) (by intro i h; simp at h) e.on h5
      rw [Array.getElem?_toList] at g1
      exact ih e.on h4 o2 g1 (fun e' he' hb' => hcl e.on o2 hre g1 e' he' hb') h5

end Go.Proofs.YtginchgkbgcimaaDoor.AL
