/- The operations over the abstract states, all of them: what an operation of a region comes to. -/
import Derived.Test.YtginchgkbgcimaaDoorAmem7
import Derived.RangeFuncSeq
namespace Go.Proofs.YtginchgkbgcimaaDoor.AL
open Go Go.RowKit

theorem eqIn_slice {P : Program} {t e : TypeId} (hu : P.underlying t = some (.slice e)) (w : World) (d : Nat) (a : Option Addr) (n c : Nat) : (Op.equalIn (d + 1) t (.slice a n c) (.slice none 0 0)).run P w = .ok a.isNone w := by
  cases a <;> simp [Op.equalIn, run_underlying hu]
theorem eqIn_ptr {P : Program} {t e : TypeId} (hu : P.underlying t = some (.pointer e)) (w : World) (d : Nat) (a : Option Addr) : (Op.equalIn (d + 1) t (.pointer a) (.pointer none)).run P w = .ok a.isNone w := by
  cases a <;> simp [Op.equalIn, run_underlying hu]
theorem eqIn_func {P : Program} {t : TypeId} {a b : Array TypeId} {c : Bool} (hu : P.underlying t = some (.func a b c)) (w : World) (d : Nat) : (Op.equalIn (d + 1) t .nilFunc .nilFunc).run P w = .ok true w ∧ ∀ f x y, (Op.equalIn (d + 1) t (.func f x y) .nilFunc).run P w = .ok false w := by
  simp [Op.equalIn, run_underlying hu]
theorem eqIn_iface {P : Program} {t : TypeId} {a : Array (String × TypeId)} (hu : P.underlying t = some (.interface a)) (w : World) (d : Nat) : (Op.equalIn (d + 1) t .nilIface .nilIface).run P w = .ok true w ∧ ∀ x y, (Op.equalIn (d + 1) t (.iface x y) .nilIface).run P w = .ok false w := by
  simp [Op.equalIn, run_underlying hu]

theorem vcEq_sound {P : Program} {w0 : Guard} {w : World} {σ : Sig} {h : Heap} (s : Sim w0 σ h w) {cls : EqC} {neg : Bool} {x y : AV} {vx vy : Value} {t : TypeId} {ox oy : Operand} {K : Cont} (hc : chkEq P cls t oy = true)
    (hoy : ∀ c, oy = .const c → c = vy) (hx : VR σ x vx) (hy : VR σ y vy) (v : vcEq cls neg x y fun r => K r h) :
    Good w0 σ K ((do eqGuard (if neg then .neq else .eql) t ox oy vx vy; binOp (if neg then .neq else .eql) t vx vy : Sem Value).run P w) := by
  unfold chkEq at hc
  split at hc
  · rename_i hu
    unfold vcEq at v
    simp only at v
    split at v
    · cases hx; cases hy
      rename_i a b
      rw [eq_run neg (fun op => by rw [eqGuard_at_bool]; rfl) (fun _ => rfl) rfl (run_equalIn_bool' w 9999 t a b hu)]
      exact Good.same s (.bool _) v
    · exact v.elim
  · rename_i ks fs hu
    simp only [Bool.and_eq_true, Bool.not_eq_true'] at hc
    obtain ⟨⟨hf, hst⟩, hgt⟩ := hc
    unfold vcEq at v
    simp only at v
    split at v
    · rename_i xs ys
      cases hx with
      | agg _ as hl hr =>
        cases hy with
        | agg _ bs hl' hr' =>
          cases he : eqScals ks xs ys with
          | none => rw [he] at v; exact v.elim
          | some b =>
            rw [he] at v
            have hfs : P.fieldsOf t = fs := by simp [Program.fieldsOf, hu]
            have e1 : (Op.eqFields (9998 + 1) as bs fs.toList).run P w = .ok b w := by
              refine eqFields_flat (σ := σ) w 9998 ks fs.toList 0 b xs ys hf he ?_ ?_
              · intro j x hj
                have hlt : j < as.size := by rw [← hl]; exact (List.getElem?_eq_some_iff.1 hj).1
                exact ⟨as[j], by simp [hlt], hr j x _ hj (by simp [hlt])⟩
              · intro j x hj
                have hlt : j < bs.size := by rw [← hl']; exact (List.getElem?_eq_some_iff.1 hj).1
                exact ⟨bs[j], by simp [hlt], hr' j x _ hj (by simp [hlt])⟩
            have e2 : (Op.equalIn (9999 + 1) t (.agg as) (.agg bs)).run P w = .ok b w := by
              rw [run_equalIn_struct w 9999 t as bs (by rw [hfs]; exact hu) hst, hfs]
              exact e1
            rw [eq_run neg ?_ (fun _ => rfl) rfl e2]
            · exact Good.same s (.bool _) v
            · intro op
              have : (eqGuard op t ox oy (.agg as) (.agg bs)).run P w = .ok () w := by
                unfold eqGuard
                cases op <;> simp [hgt]
              exact this
    · exact v.elim
  · rename_i e hu
    have lit := eqIn_slice hu w 9999
    have go : ∀ (a : Option Addr) (n c : Nat) (b : Bool), a.isNone = b → K (.bool (neg ^^ b)) h → Good w0 σ K ((do eqGuard (if neg then .neq else .eql) t ox oy (.slice a n c) (.slice none 0 0); binOp (if neg then .neq else .eql) t (.slice a n c) (.slice none 0 0) : Sem Value).run P w) := by
      intro a n c b hb k
      rw [eq_run neg (fun op => by rw [eqGuard_at_slice]; rfl) (fun _ => rfl) rfl (lit a n c), hb]
      exact Good.same s (.bool _) k
    unfold vcEq at v
    simp only at v
    split at v
    · cases hx; cases hy; exact go _ _ _ true rfl v
    · cases hy
      cases hx with
      | slice _ _ _ _ cap' l hl _ _ => exact go _ _ _ false rfl v.p
      | sliceE _ a l hl =>
        cases a with
        | none => exact go _ _ _ true rfl (v.z rfl)
        | some a => exact go _ _ _ false rfl v.p
    · simp only [hid_eq] at v
      cases hy
      cases hx with
      | islice _ _ _ b o cap c _ _ _ _ _ => exact go _ _ _ false rfl v.2
      | isliceE _ a cap _ _ =>
        cases a with
        | none => exact go _ _ _ true rfl (v.1 rfl)
        | some a => exact go _ _ _ false rfl v.2
    · exact v.elim
  · rename_i e hu
    have lit := eqIn_ptr hu w 9999
    have go : ∀ (a : Option Addr) (b : Bool), a.isNone = b → K (.bool (neg ^^ b)) h → Good w0 σ K ((do eqGuard (if neg then .neq else .eql) t ox oy (.pointer a) (.pointer none); binOp (if neg then .neq else .eql) t (.pointer a) (.pointer none) : Sem Value).run P w) := by
      intro a b hb k
      rw [eq_run neg (fun op => by rw [eqGuard_at_pointer]; rfl) (fun _ => by cases a <;> rfl) (by cases a <;> rfl) (lit a), hb]
      exact Good.same s (.bool _) k
    unfold vcEq at v
    simp only at v
    split at v
    · cases hx; cases hy; exact go _ true rfl v
    · cases hx; cases hy; exact go _ false rfl v
    · cases hx; cases hy; exact go _ false rfl v
    · cases hx; cases hy; exact go _ false rfl v
    · exact v.elim
  · rename_i hu
    unfold vcEq at v
    simp only at v
    split at v
    · cases hx; cases hy
      have e1 := (eqIn_func hu w 9999).1
      rw [eq_run neg (fun op => by rw [eqGuard_at_nilFunc]; rfl) (fun _ => rfl) rfl e1]
      exact Good.same s (.bool _) v
    · cases hy
      cases hx with
      | fn f as cs as' cs' _ _ _ _ =>
        have e1 := (eqIn_func hu w 9999).2
        rw [eq_run neg (fun op => by rw [eqGuard_at_func]; rfl) (fun _ => rfl) rfl (e1 _ _ _)]
        exact Good.same s (.bool _) v
    · exact v.elim
  · rename_i hu
    split at hc
    · rename_i c
      have hcv := hoy c rfl
      unfold vcEq at v
      simp only at v
      split at v
      · cases hx; cases hy
        have e1 := (eqIn_iface hu w 9999).1
        rw [eq_run neg (fun op => by rw [eqGuard_nil_constR]; rfl) (fun _ => rfl) rfl e1]
        exact Good.same s (.bool _) v
      · cases hy
        cases hx with
        | iface tt z u _ =>
          have e1 := (eqIn_iface hu w 9999).2
          rw [eq_run neg (fun op => by rw [eqGuard_at_iface]; rfl) (fun _ => rfl) rfl (e1 _ _)]
          exact Good.same s (.bool _) v
      · exact v.elim
    · simp at hc
  · simp at hc

/-! ### all of them -/
inductive AOp where
  | mov (x : Opd)
  | asg (x : Opd)
  | pick (c a b : Opd)
  | alloc (zs : List AV)
  | box (x : Opd)
  | build (zs : List AV) (ps : List (Nat × Nat × Opd))
  | bslice (len : Nat) (zs : List AV) (ps : List (Nat × Nat × Opd))
  | ld (x : Opd) (n : Option Nat)
  | st (x v : Opd) (n : Nat)
  | nilchk (x : Opd)
  | bin (op : BinOp) (x y : Opd)
  | eq (cls : EqC) (neg : Bool) (x y : Opd)
  | not (x : Opd)
  | neg (x : Opd)
  | conv (k : IntKind) (x : Opd)
  | cid (x : Opd)
  | mkif (t : TypeId) (x : Opd)
  | mkfn (f : Fn) (first captured : List Opd)
  | mkslice (bytes : Nat) (zs : List AV) (l c : Opd)
  | slc (x : Opd) (lo hi mx : Option Opd) (size : Nat)
  | fld (x : Opd) (off : Nat)
  | fldv (x : Opd) (off : Nat) (n : Option Nat)
  | idx (x i : Opd) (size : Nat)
  | idxA (x i : Opd) (size len : Nat)
  | ext (x : Opd) (i : Nat)
  | len (str : Bool) (x : Opd)
  | lenA (n : Nat) (x : Opd)
  | app (x y : Opd) (size bytes : Nat)
  | cpy (x y : Opd) (size : Nat)
  | mx (x y : Opd)
  | mn (x y : Opd)
  | call (f : FuncId) (args : List Opd)
  | callv (x : Opd) (args : List Opd)
  | clr (x : Opd) (zs : List AV)
  | b2s (x : Opd)
  | calx (f : FuncId) (args : List Opd)
  | pnc (x : Opd)
  | tas (t : TypeId) (zs : List AV) (x : Opd)
  | allocT (t : TypeId) (zs : List AV)
  | appT (x y : Opd) (size bytes code : Nat)
  | idxv (x i : Opd) (size len : Nat) (n : Option Nat)
  | idxs (x i : Opd)
  | scut (x : Opd) (lo hi : Option Opd)
  | sdata (x : Opd)
  | ustr (e : TypeId) (x n : Opd)
  | tun (x : Opd)
  | fun_ (t n : Nat) (x : Opd)
  | eqp (neg : Bool) (x y : Opd)
  | bad
  deriving Inhabited

inductive AEnd where
  | ret (v : AV)
  | pan (v : AV)

inductive ERel (σ : Sig) : AEnd → Ending → Prop where
  | ret (v : AV) (u : Value) (h : VR σ v u) : ERel σ (.ret v) (.returned u)
  | pan (v : AV) (u : Value) (h : VR σ v u) : ERel σ (.pan v) (.panicked [{ v := u, recovered := false }])

/-- A call over abstract states. -/
structure ACalls (P : Program) (f : FuncId) (args : List AV) (h : Heap) (R : AEnd → Heap → Prop) : Prop where
  run : ∀ w0 σ w (vals : List Value), Sim w0 σ h w → VRs σ args vals → Calls P f vals.toArray w fun e w' => ∃ r h' σ', ERel σ' r e ∧ R r h' ∧ Sim w0 σ' h' w' ∧ σ.Le σ'

theorem ACalls.mono {P : Program} {f : FuncId} {args : List AV} {h : Heap} {R R' : AEnd → Heap → Prop} (c : ACalls P f args h R) (hr : ∀ e h', R e h' → R' e h') : ACalls P f args h R' := by
  refine ⟨fun w0 σ w vals s hv => ?_⟩
  refine (c.run w0 σ w vals s hv).mono ?_
  rintro e w' ⟨r, h', σ', h1, h2, h3, h4⟩
  exact ⟨r, h', σ', h1, hr _ _ h2, h3, h4⟩

/-- A call of yield: a round. -/
structure AYld (P : Program) (i : Nat) (args : List AV) (h : Heap) (R : AEnd → Heap → Prop) : Prop where
  run : ∀ n w0 σ w (vals : List Value) l, Sim w0 σ h w → VRs σ args vals → σ.loc i = some l → YieldAt Fence.wide n P l.b vals.toArray w fun e w' => ∃ r h' σ', ERel σ' r e ∧ R r h' ∧ Sim w0 σ' h' w' ∧ σ.Le σ'

def andEnd (K E : Cont) : AEnd → Heap → Prop
  | .ret v, h => K v h
  | .pan v, h => E v h

/-- A function that the walk may enter. -/
def hasBody (P : Program) (f : FuncId) : Bool := match P.funcs[f]? with | some fn => fn.body.isSome && fn.name != "runtime.NumGoroutine" | none => false

def vcOp (P : Program) (ts : List AV) (h : Heap) (K E : Cont) : AOp → Prop
  | .mov x => K (ev ts x) h
  | .asg x => K (ev ts x) h
  | .pick c a b => (match ev ts c with | .bool q => bcase q (K (ev ts a) h) (K (ev ts b) h) | _ => False)
  | .alloc zs => withNew h (.cells zs none) fun i h' => K (.ptr i 0) h'
  | .box x => vcBox h (ev ts x) K
  | .build zs ps => vcBuild zs (ps.map fun p => (p.1, p.2.1, ev ts p.2.2)) fun r => K r h
  | .bslice len zs ps => vcBSlice h len zs (ps.map fun p => (p.1, p.2.1, ev ts p.2.2)) K
  | .ld x n => vcLoad h (ev ts x) n fun r => K r h
  | .st x v n => vcStore h (ev ts x) (ev ts v) n fun h' => K .wild h'
  | .nilchk x => (match ev ts x with | .ptr i k => K (.ptr i k) h | .iptr cs k => K (.iptr cs k) h | .aptr i k j s o => K (.aptr i k j s o) h | _ => False)
  | .bin op x y => vcBin op (ev ts x) (ev ts y) fun r => K r h
  | .eq cls neg x y => vcEq cls neg (ev ts x) (ev ts y) fun r => K r h
  | .not x => (match ev ts x with | .bool b => K (.bool !b) h | _ => False)
  | .neg x => (match ev ts x with | .int k n => wnum k (0 - n) (fun r => K (.int k r) h) | _ => False)
  | .conv k x => (match ev ts x with | .int _ n => wnum k n (fun r => K (.int k r) h) | _ => False)
  | .cid x => (match ev ts x with | .str s => K (.str s) h | _ => False)
  | .mkif t x => K (.iface t (ev ts x)) h
  | .mkfn f first captured => forceVs (first.map (ev ts)) fun a => forceVs (captured.map (ev ts)) fun b => K (.fn f a b) h
  | .mkslice bytes zs l c => vcMake h bytes zs (ev ts l) (ev ts c) K
  | .slc x lo hi mx size => vcSlc h (ev ts x) (lo.map (ev ts)) (hi.map (ev ts)) (mx.map (ev ts)) size fun r => K r h
  | .fld x off => vcFld (ev ts x) off fun r => K r h
  | .fldv x off n => vcPart (ev ts x) off n fun r => K r h
  | .idx x i size => vcIdx (ev ts x) (ev ts i) size fun r => K r h
  | .idxA x i size len => vcIdxA (ev ts x) (ev ts i) size len fun r => K r h
  | .ext x i => vcExt (ev ts x) i fun r => K r h
  | .len str x => (match str, ev ts x with | true, .str s => K (.int .i64 s.size) h | false, .slice _ _ n _ => K (.int .i64 n) h | false, .islice _ n _ => K (.int .i64 n) h | false, .lit (.slice none 0 0) => K (.int .i64 0) h | _, _ => False)
  | .lenA n _ => K (.int .i64 n) h
  | .app x y size bytes => vcApp h (ev ts x) (ev ts y) size bytes size K
  | .cpy x y size => vcCopy h (ev ts x) (ev ts y) size K
  | .mx x y => (match ev ts x, ev ts y with | .int k a, .int _ b => K (.int k (max a b)) h | _, _ => False)
  | .mn x y => (match ev ts x, ev ts y with | .int k a, .int _ b => K (.int k (min a b)) h | _, _ => False)
  | .call f args => forceVs (args.map (ev ts)) fun vs => ACalls P f vs h (andEnd K E)
  | .callv x args => (match ev ts x with | .fn (.func f) first captured => hasBody P f = true ∧ forceVs (first ++ args.map (ev ts) ++ captured) fun vs => ACalls P f vs h (andEnd K E) | .yld i => forceVs (args.map (ev ts)) fun vs => AYld P i vs h (andEnd K E) | _ => False)
  | .clr x zs => vcClr h (ev ts x) zs K
  | .b2s x => vcB2s h (ev ts x) fun r => K r h
  | .calx f args => forceVs (args.map (ev ts)) fun vs => AExt P f vs h K
  | .pnc x => (match ev ts x with | .iface t y => E (.iface t y) h | _ => False)
  | .tas t zs x => (match ev ts x with | .lit .nilIface => K (.tup [.agg zs, .bool false]) h | .iface t' y => bcase (t' == t) (K (.tup [y, .bool true]) h) (K (.tup [.agg zs, .bool false]) h) | _ => False)
  | .allocT t zs => withNew h (.cells zs (some ((t + 1) * 1048576))) fun i h' => K (.ptr i 0) h'
  | .appT x y size bytes code => vcApp h (ev ts x) (ev ts y) size bytes code K
  | .idxv x i size len n => vcIdxv (ev ts x) (ev ts i) size len n fun r => K r h
  | .idxs x i => vcIdxs (ev ts x) (ev ts i) fun r => K r h
  | .scut x lo hi => vcScut (ev ts x) (lo.map (ev ts)) (hi.map (ev ts)) fun r => K r h
  | .sdata x => vcSdata (ev ts x) fun r => K r h
  | .ustr e x n => vcUstr e h (ev ts x) (ev ts n) K
  | .tun x => vcTun h (ev ts x) fun r => K r h
  | .fun_ t n x => vcFun t n h (ev ts x) fun r => K r h
  | .eqp neg x y => vcEqp neg (ev ts x) (ev ts y) fun r => K r h
  | .bad => False

def chkOpt (x : Option Opd) (o : Option Operand) : Bool := match x, o with | none, none => true | some a, some b => chkOpd a b | _, _ => false

def chkOp (P : Program) : AOp → Op → Bool
  | .mov x, .move y => chkOpd x y
  | .asg x, .assign y => chkOpd x y
  | .pick c a b, .pick c' a' b' => chkOpd c c' && chkOpd a a' && chkOpd b b'
  | .alloc zs, .alloc t => chkZero P t zs
  | .box x, .box _ y => chkOpd x y
  | .build zs ps, .build t qs => chkBuild P t zs ps qs
  | .bslice len zs ps, .buildSlice t len' qs => len == len' && chkBSlice P t len zs ps qs
  | .ld x n, .load t y => chkLoad P t n && chkOpd x y
  | .st x v n, .store t y u => chkSize P t n && chkOpd x y && chkOpd v u
  | .nilchk x, .nilCheck y => chkOpd x y
  | .bin op x y, .binOp op' _ x' y' _ => decide (op = op') && chkOpd x x' && chkOpd y y'
  | .eq cls neg x y, .binOp op t x' y' _ => decide (op = (if neg then .neq else .eql)) && chkEq P cls t y' && chkOpd x x' && chkOpd y y'
  | .not x, .unOp .not _ y => chkOpd x y
  | .neg x, .unOp .neg _ y => chkOpd x y
  | .conv k x, .convert src dst y => (P.underlying src).isSome && (match P.underlying dst with | some (.int k') => decide (k = k') | _ => false) && chkOpd x y
  | .cid x, .convert src dst y => (P.underlying src).isSome && (match P.underlying dst with | some .string => true | _ => false) && chkOpd x y
  | .mkif t x, .makeInterface t' y => t == t' && (match P.underlying t with | some (.interface _) | none => false | _ => true) && chkOpd x y
  | .mkfn f a c, .makeFunc f' a' c' => decide (f = f') && chkOpds a a' && chkOpds c c'
  | .mkslice bytes zs l c, .makeSlice t l' c' => chkMake P t bytes zs && chkOpd l l' && chkOpd c c'
  | .slc x lo hi mx size, .slice t x' lo' hi' mx' => chkElem P t size && chkOpd x x' && chkOpt lo lo' && chkOpt hi hi' && chkOpt mx mx' && (!mx.isSome || hi.isSome)
  | .fld x off, .fieldAddr t y f => chkFld P t f off && chkOpd x y
  | .fldv x off n, .field t y f => chkFldv P t f off n && chkOpd x y
  | .idx x i size, .indexAddr t y j => chkElem P t size && chkOpd x y && chkOpd i j
  | .idxA x i size len, .indexAddr t y j => chkArr P t size len && chkOpd x y && chkOpd i j
  | .ext x i, .extract y j => i == j && chkOpd x y
  | .len str x, .call { callee := .builtin .len, args, argTypes } => (match args.toList, argTypes[0]? with
      | [y], some t => chkOpd x y && (match P.underlying t, str with | some .string, true | some (.slice _), false => true | _, _ => false)
      | _, _ => false)
  | .lenA n x, .call { callee := .builtin .len, args, argTypes } => (match args.toList, argTypes[0]? with
      | [y], some t => chkOpd x y && (match P.underlying t with | some (.array m _) => m == n | _ => false)
      | _, _ => false)
  | .app x y size bytes, .call { callee := .builtin .append, args, argTypes } => (match args.toList with | [x', y'] => chkApp P argTypes size bytes size && chkOpd x x' && chkOpd y y' | _ => false)
  | .cpy x y size, .call { callee := .builtin .copy, args, argTypes } => (match args.toList with | [x', y'] => chkCopy P argTypes size && chkOpd x x' && chkOpd y y' | _ => false)
  | .mx x y, .call { callee := .builtin .max, args, .. } => (match args.toList with | [x', y'] => chkOpd x x' && chkOpd y y' | _ => false)
  | .mn x y, .call { callee := .builtin .min, args, .. } => (match args.toList with | [x', y'] => chkOpd x x' && chkOpd y y' | _ => false)
  | .call f args, .call { callee := .value (.func g), args := args', .. } => f == g && hasBody P f && chkOpds args args'
  | .callv x args, .call { callee := .value y, args := args', .. } => chkOpd x y && chkOpds args args'
  | .clr x zs, .call { callee := .builtin .clear, args, argTypes } => (match args.toList with | [y] => chkClr P argTypes zs && chkOpd x y | _ => false)
  | .b2s x, .convert src dst y => (match P.underlying src with | some (.slice e) => (match P.underlying e with | some (.int .u8) => true | _ => false) | _ => false) && (match P.underlying dst with | some .string => true | _ => false) && chkOpd x y
  | .calx f args, .call { callee := .value (.func g), args := args', .. } => f == g && chkOpds args args'
  | .pnc x, .panic y => chkOpd x y
  | .tas t zs x, .typeAssert y _ t' true => t == t' && (match P.underlying t with | some (.interface _) | none => false | _ => true) && (match (P.info? t).bind (·.zero) with | some (.agg _) => true | _ => false) && chkZero P t zs && chkOpd x y
  | .allocT t zs, .alloc t' => t == t' && chkZero P t zs
  | .appT x y size bytes code, .call { callee := .builtin .append, args, argTypes } => (match args.toList with | [x', y'] => chkApp P argTypes size bytes code && chkOpd x x' && chkOpd y y' | _ => false)
  | .idxv x i size len n, .index t x' i' => chkIdxv P t size len n && chkOpd x x' && chkOpd i i'
  | .idxs x i, .index t x' i' => isStr P t && chkOpd x x' && chkOpd i i'
  | .scut x lo hi, .slice t x' lo' hi' none => isStr P t && chkOpd x x' && chkOpt lo lo' && chkOpt hi hi'
  | .sdata x, .call { callee := .builtin .unsafeSliceData, args, .. } => (match args.toList with | [x'] => chkOpd x x' | _ => false)
  | .ustr e x n, .call { callee := .builtin .unsafeString, args, argTypes } => (match args.toList with | [x', n'] => chkUstr P argTypes e && chkOpd x x' && chkOpd n n' | _ => false)
  | .tun x, .convert src dst y => chkTun P src dst && chkOpd x y
  | .fun_ t n x, .convert src dst y => chkFun P src dst t n && chkOpd x y
  | .eqp neg x y, .binOp op t x' y' _ => decide (op = (if neg then .neq else .eql)) && chkEqp P t && chkOpd x x' && chkOpd y y'
  | .bad, op => (match op with | .defer _ => false | _ => true)
  | _, _ => false

theorem Good.upon {P : Program} {o : Oper} {a : Act} {w : World} {w0 : Guard} {σ : Sig} {K : Cont} {next : Act → World → Prop} {Q : Exit → Act → World → Prop} {S : Sem Value} (he : execOp a.eval o = (do pure (.value (← S)))) (g : Good w0 σ K (S.run P w))
    (hn : ∀ v v' h' w' σ', VR σ' v v' → K v h' → Sim w0 σ' h' w' → σ.Le σ' → next (a.put o.dst v') w') : o.wp P a w next Q := by
  obtain ⟨v', w', σ', v, h', hr, h1, h2, h3, h4⟩ := g
  unfold Oper.wp
  rw [he]
  simp only [Sem.run_bind, hr, Result.andThen_ok, Sem.run_pure]
  exact hn v v' h' w' σ' h1 h2 h3 h4

end Go.Proofs.YtginchgkbgcimaaDoor.AL
