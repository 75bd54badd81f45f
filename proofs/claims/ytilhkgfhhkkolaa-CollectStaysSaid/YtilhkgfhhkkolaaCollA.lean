/- Plans that may be: both ways of telling. -/
import Derived.Test.YtilhkgfhhkkolaaCcollect
import Derived.Test.YtilhkgfhhkkolaaCref25
import Derived.Test.YtilhkgfhhkkolaaCodecG
namespace Go.Proofs.Ytilhkgfhhkkolaa.C
open Go Go.RowKit Go.Proofs.Ytilhkgfhhkkolaa.AL
set_option maxRecDepth 100000
set_option maxHeartbeats 40000000
set_option linter.unusedVariables false
set_option linter.unusedSimpArgs false

/-! ### the document's words, on numbers -/
def within (n a b : Int) : Bool := decide (n ≥ a) && decide (n ≤ b)
theorem within_iff {n a b : Int} : within n a b = true ↔ a ≤ n ∧ n ≤ b := by simp [within]

/-- A plan's eight numbers: Field N K T S E Degree Width. -/
structure Pl where
  f : Int
  n : Int
  k : Int
  t : Int
  s : Int
  e : Int
  d : Int
  w : Int
  deriving DecidableEq, Inhabited

/-- A plan's value. -/
abbrev Pl.v (p : Pl) : AV := .agg [.int .u8 p.f, .int .i64 p.n, .int .i64 p.k, .int .i64 p.t, .int .i64 p.s, .int .i64 p.e, .int .i64 p.d, .int .i64 p.w]
/-- A plan's cells. -/
abbrev Pl.cells (p : Pl) : List AV := [.int .u8 p.f, .int .i64 p.n, .int .i64 p.k, .int .i64 p.t, .int .i64 p.s, .int .i64 p.e, .int .i64 p.d, .int .i64 p.w]
/-- The plan that is none. -/
abbrev Pl.o : Pl := ⟨0, 0, 0, 0, 0, 0, 0, 0⟩
/-- Its numbers are of their kinds. -/
structure Pl.Ok (p : Pl) : Prop where
  f : 0 ≤ p.f ∧ p.f ≤ 255
  n : I64 p.n
  k : I64 p.k
  t : I64 p.t
  s : I64 p.s
  e : I64 p.e
  d : I64 p.d
  w : I64 p.w

def Pl.may (p : Pl) : Bool := (p.f == 1 || p.f == 2) && within p.n 1 64 && within p.k 1 64 && within p.w 1 64 && within p.t 0 64 && decide (p.k + p.t ≤ 64) && within p.s 0 64 && within p.e 0 64 && within p.d 0 1024
def Pl.deg (p : Pl) : Int := p.d * (p.k + p.t - 1)
def Pl.spare (p : Pl) : Int := p.n - (p.deg + p.s + 2 * p.e + 1)
def Pl.needed (p : Pl) : Int := p.deg + 2 * p.e + 1
def Pl.accept (p : Pl) : Int := if p.may then (if p.spare < 0 then 120 else 0) else 2

theorem Pl.may_iff {p : Pl} : p.may = true ↔ (p.f = 1 ∨ p.f = 2) ∧ (1 ≤ p.n ∧ p.n ≤ 64) ∧ (1 ≤ p.k ∧ p.k ≤ 64) ∧ (1 ≤ p.w ∧ p.w ≤ 64) ∧ (0 ≤ p.t ∧ p.t ≤ 64) ∧ p.k + p.t ≤ 64 ∧ (0 ≤ p.s ∧ p.s ≤ 64) ∧ (0 ≤ p.e ∧ p.e ≤ 64) ∧ (0 ≤ p.d ∧ p.d ≤ 1024) := by
  simp [Pl.may, within, and_assoc]

theorem Pl.deg_bd {p : Pl} (h : p.may = true) : 0 ≤ p.deg ∧ p.deg ≤ 64512 := by
  obtain ⟨_, _, hk, _, ht, hkt, _, _, hd⟩ := Pl.may_iff.1 h
  unfold Pl.deg
  constructor
  · exact Int.mul_nonneg hd.1 (by omega)
  · calc p.d * (p.k + p.t - 1) ≤ 1024 * (p.k + p.t - 1) := Int.mul_le_mul_of_nonneg_right hd.2 (by omega)
      _ ≤ 64512 := by omega

/-! ### package plan -/
theorem plan_within.a (n a b : Int) : Pure prog 35 [.int .i64 n, .int .i64 a, .int .i64 b] (.bool (within n a b)) := by
  refine pure_of_vc plan_within.k (by simp) ?_
  conv => whnf
  repeat' ((first | (with_reducible refine hid_mk ?_) | (with_reducible refine bcase_dec (fun hb => ?_) (fun hb => ?_))) <;> (conv => whnf))
  all_goals exact fin_pure (by simp [within, hb]) (by simp)

theorem plan_May.a (p : Pl) : Pure prog 22 [p.v] (.bool p.may) := by
  refine pure_of_vc plan_May.k (by simp) ?_
  conv => whnf
  repeat' ((first | (with_reducible refine hid_mk ?_) | (with_reducible refine bcase_dec (fun hb => ?_) (fun hb => ?_)) | (with_reducible refine bcase_beq (fun hb => ?_) (fun hb => ?_)) | (with_reducible refine bcase_mk (fun hb => ?_) (fun hb => ?_)) | (with_reducible refine Pure.use (plan_within.a ..) ?_) | (with_reducible refine wnum_mk ?_)) <;> (conv => whnf))
  all_goals
    have hw : within p.k 1 64 = true → within p.t 0 64 = true → IntKind.i64.wrap (p.k + p.t) = p.k + p.t := by
      intro a b; simp [within] at a b; exact wrap_i64 (by omega) (by omega)
    refine fin_pure ?_ (by simp)
    simp_all [Pl.may] <;> (intros; omega)

theorem ref12_within.a (n a b : Int) : Pure prog 33 [.int .i64 n, .int .i64 a, .int .i64 b] (.bool (within n a b)) := by
  refine pure_of_vc ref12_within.k (by simp) ?_
  conv => whnf
  repeat' ((first | (with_reducible refine hid_mk ?_) | (with_reducible refine bcase_dec (fun hb => ?_) (fun hb => ?_))) <;> (conv => whnf))
  all_goals exact fin_pure (by simp [within, hb]) (by simp)

/-- The number of a field is one of eight bits. -/
def Pl.Fok (p : Pl) : Prop := 0 ≤ p.f ∧ p.f ≤ 255

theorem within_or {f : Int} : within f 1 2 = (f == 1 || f == 2) := by
  rw [Bool.eq_iff_iff]; simp [within]; omega

theorem ref12_May.a (p : Pl) (hf : p.Fok) : Pure prog 20 [p.v] (.bool p.may) := by
  refine pure_of_vc ref12_May.k (by simp) ?_
  conv => whnf
  unfold Pl.Fok at hf
  by_cases hk : within p.k 1 64 = true
  · have hk' := within_iff.1 hk
    repeat' ((first | (with_reducible refine hid_mk ?_) | (with_reducible refine bcase_true (by with_reducible assumption) ?_) | (with_reducible refine bcase_mk (fun hb => ?_) (fun hb => ?_)) | (with_reducible refine Pure.use (ref12_within.a ..) ?_) | (with_reducible refine wnum_i64 (by omega) ?_)) <;> (conv => whnf))
    all_goals
      refine fin_pure ?_ (by simp)
      have e : within p.t 0 (64 - p.k) = (within p.t 0 64 && decide (p.k + p.t ≤ 64)) := by
        rw [Bool.eq_iff_iff]; simp [within]; omega
      simp_all [Pl.may, within_or, Bool.and_assoc] <;> (intro a b; exact absurd (hb ‹_›) (by omega))
  · have hk' : within p.k 1 64 = false := by simpa using hk
    repeat' ((first | (with_reducible refine hid_mk ?_) | (with_reducible refine bcase_false (by with_reducible assumption) ?_) | (with_reducible refine bcase_mk (fun hb => ?_) (fun hb => ?_)) | (with_reducible refine Pure.use (ref12_within.a ..) ?_) | (with_reducible refine wnum_i64 (by omega) ?_)) <;> (conv => whnf))
    all_goals
      refine fin_pure ?_ (by simp)
      simp_all [Pl.may]


end Go.Proofs.Ytilhkgfhhkkolaa.C
