/- The operations over the abstract states: equality, conversions, values of functions and interfaces. -/
import Derived.Test.YtginchgkbgcimaaDoorAmem6
import Derived.Laws.StructEq
import Derived.Laws.Unary
namespace Go.Proofs.YtginchgkbgcimaaDoor.AL
open Go Go.RowKit

/-! ### equality of structs of scalars -/
/-- Fields that are scalars of one cell each, from a place on, of these kinds. -/
def flatFields (P : Program) : Nat → List Nat → List Field → Bool
  | _, [], [] => true
  | o, k :: ks, f :: fs => (f.name != "_") && (f.offset == o) && (match P.underlying f.type, k with | some .bool, 0 | some (.int _), 1 | some .string, 2 => true | _, _ => false) && flatFields P (o + 1) ks fs
  | _, _, _ => false

theorem eqFields_flat {P : Program} {σ : Sig} (w : World) (d : Nat) {as bs : Array Value} : ∀ (ks : List Nat) (fs : List Field) (o : Nat) (b : Bool) (xs ys : List AV), flatFields P o ks fs = true → eqScals ks xs ys = some b →
    (∀ (j : Nat) x, xs[j]? = some x → ∃ y, as[o + j]? = some y ∧ VR σ x y) → (∀ (j : Nat) x, ys[j]? = some x → ∃ y, bs[o + j]? = some y ∧ VR σ x y) → (Op.eqFields (d + 1) as bs fs).run P w = .ok b w
  | [], fs, o, b, xs, ys, hf, he, _, _ => by
    cases fs with
    | nil => cases xs <;> cases ys <;> simp [eqScals] at he; subst he; simp [Op.eqFields]
    | cons f fs => simp [flatFields] at hf
  | k :: ks, fs, o, b, xs, ys, hf, he, hxr, hyr => by
    cases fs with
    | nil => simp [flatFields] at hf
    | cons f fs =>
      cases xs with
      | nil => simp [eqScals] at he
      | cons x xs =>
        cases ys with
        | nil => simp [eqScals] at he
        | cons y ys =>
          simp only [flatFields, Bool.and_eq_true, bne_iff_ne, ne_eq, beq_iff_eq] at hf
          obtain ⟨⟨⟨hn, ho⟩, ht⟩, hrest⟩ := hf
          simp only [eqScals] at he
          cases h3 : eqScal k x y with
          | none => rw [h3] at he; simp at he
          | some r =>
            rw [h3] at he
            cases h4 : eqScals ks xs ys with
            | none => rw [h4] at he; simp at he
            | some r2 =>
              rw [h4] at he
              simp at he
              have ih := eqFields_flat w d ks fs (o + 1) r2 xs ys hrest h4 (fun j x h => by have := hxr (j + 1) x (by simpa using h); rwa [show o + (j + 1) = o + 1 + j by omega] at this)
                (fun j x h => by have := hyr (j + 1) x (by simpa using h); rwa [show o + (j + 1) = o + 1 + j by omega] at this)
              obtain ⟨va, ha, rx⟩ := hxr 0 x rfl
              obtain ⟨vb, hb, ry⟩ := hyr 0 y rfl
              rw [Nat.add_zero] at ha hb
              have hag : isAggT P f.type = false := by
                unfold isAggT
                split at ht <;> first | (rename_i e; rw [e]) | simp at ht
              have hu : (P.underlying f.type).isSome = true := by
                split at ht <;> first | (rename_i e; rw [e]; rfl) | simp at ht
              have pa : (part f.type as f.offset).run P w = .ok va w := by
                simp [part, run_isAgg' w hu, hag, ho, ha]
              have pb : (part f.type bs f.offset).run P w = .ok vb w := by
                simp [part, run_isAgg' w hu, hag, ho, hb]
              have key : (Op.equalIn (d + 1) f.type va vb).run P w = .ok r w := by
                split at ht
                · rename_i e
                  unfold eqScal at h3
                  split at h3 <;> first | (simp at h3; done) | skip
                  · cases rx; cases ry; simp at h3; subst h3; exact run_equalIn_bool' w d _ _ _ e
                  all_goals contradiction
                · rename_i q e
                  unfold eqScal at h3
                  split at h3 <;> first | (simp at h3; done) | skip
                  · contradiction
                  · cases rx; cases ry
                    split at h3
                    · rename_i hk; subst hk; simp at h3; subst h3; exact run_equalIn_int w d _ _ _ _ _ e
                    · simp at h3
                  · contradiction
                · rename_i e
                  unfold eqScal at h3
                  split at h3 <;> first | (simp at h3; done) | skip
                  · contradiction
                  · contradiction
                  · cases rx; cases ry; simp at h3; subst h3; exact run_equalIn_string w d _ _ _ e
                · simp at ht
              simp only [Op.eqFields, if_pos hn, Sem.run_bind, pa, pb, Result.andThen_ok, key]
              cases r with
              | true => simp only [Bool.not_true, Bool.false_eq_true, if_false]; rw [ih]; simp at he; rw [he]
              | false => simp at he; simp [he]

/-- Is a number nought? -/
structure wnz (n : Nat) (A B : Prop) : Prop where
  z : n = 0 → A
  p : B
theorem wnz_pos {n : Nat} {A B : Prop} (h : 0 < n) (b : B) : wnz n A B := ⟨fun e => absurd e (by omega), b⟩
theorem wnz_mk {n : Nat} {A B : Prop} (a : n = 0 → A) (b : B) : wnz n A B := ⟨a, b⟩

/-- '==' and '!=' of what is no number and no string. -/
def vcEq (cls : EqC) (neg : Bool) (x y : AV) (K : AV → Prop) : Prop :=
  match cls with
  | .bool => match x, y with | .bool a, .bool b => K (.bool (neg ^^ (a == b))) | _, _ => False
  | .flat ks => match x, y with | .agg xs, .agg ys => (match eqScals ks xs ys with | some b => K (.bool (neg ^^ b)) | none => False) | _, _ => False
  | .slice => match x, y with
    | .lit (.slice none 0 0), .lit (.slice none 0 0) => K (.bool (neg ^^ true))
    | .slice _ _ _ cap, .lit (.slice none 0 0) => wnz cap (K (.bool (neg ^^ true))) (K (.bool (neg ^^ false)))
    | .islice _ n _, .lit (.slice none 0 0) => hid (n = 0 → K (.bool (neg ^^ true))) ∧ hid (K (.bool (neg ^^ false)))
    | _, _ => False
  | .ptr => match x, y with
    | .lit (.pointer none), .lit (.pointer none) => K (.bool (neg ^^ true))
    | .ptr .., .lit (.pointer none) => K (.bool (neg ^^ false))
    | .iptr .., .lit (.pointer none) => K (.bool (neg ^^ false))
    | .aptr .., .lit (.pointer none) => K (.bool (neg ^^ false))
    | _, _ => False
  | .func => match x, y with
    | .lit .nilFunc, .lit .nilFunc => K (.bool (neg ^^ true))
    | .fn .., .lit .nilFunc => K (.bool (neg ^^ false))
    | _, _ => False
  | .iface => match x, y with
    | .lit .nilIface, .lit .nilIface => K (.bool (neg ^^ true))
    | .iface .., .lit .nilIface => K (.bool (neg ^^ false))
    | _, _ => False
  | _ => False

def chkEq (P : Program) (cls : EqC) (t : TypeId) (oy : Operand) : Bool :=
  match cls, P.underlying t with
  | .bool, some .bool => true
  | .flat ks, some (.struct fs) => flatFields P 0 ks fs.toList && !P.stoodInHeld t && !P.eqGuardType P.depth t
  | .slice, some (.slice _) => true
  | .ptr, some (.pointer _) => true
  | .func, some (.func ..) => true
  | .iface, some (.interface _) => (match oy with | .const _ => true | _ => false)
  | _, _ => false

/-- The run of an equality that comes to a Bool. -/
theorem eq_run {P : Program} {w : World} {t : TypeId} {ox oy : Operand} {vx vy : Value} {b : Bool} (neg : Bool) (hg : ∀ op, (eqGuard op t ox oy vx vy).run P w = .ok () w) (hb : ∀ _ : BinOp, binOp .eql t vx vy = (do pure (.bool (← Op.equal t vx vy))))
    (hb' : binOp .neq t vx vy = (do pure (.bool (!(← Op.equal t vx vy))))) (he : (Op.equalIn (9999 + 1) t vx vy).run P w = .ok b w) :
    ((do eqGuard (if neg then .neq else .eql) t ox oy vx vy; binOp (if neg then .neq else .eql) t vx vy : Sem Value)).run P w = .ok (.bool (neg ^^ b)) w := by
  have he' : (Op.equal t vx vy).run P w = .ok b w := he
  simp only [Sem.run_bind, hg, Result.andThen_ok]
  cases neg
  · simp [hb .eql, he']
  · simp [hb', he']

end Go.Proofs.YtginchgkbgcimaaDoor.AL
