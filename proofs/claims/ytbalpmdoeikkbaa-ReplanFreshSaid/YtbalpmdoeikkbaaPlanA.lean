/- Contracts of package plan and of its reference, over the abstract states. -/
import Derived.Test.YtbalpmdoeikkbaaCplan
namespace Go.Proofs.Ytbalpmdoeikkbaa.C
open Go Go.RowKit Go.Proofs.Ytbalpmdoeikkbaa.AL
set_option maxRecDepth 100000
set_option maxHeartbeats 2000000

noncomputable abbrev prog := Go.Proofs.Try.prog

/-! ### the document's words, on numbers -/
def within (n a b : Int) : Bool := decide (n ≥ a) && decide (n ≤ b)
theorem within_iff {n a b : Int} : within n a b = true ↔ a ≤ n ∧ n ≤ b := by simp [within]

/-- A plan's eight numbers: Field N K T S E Degree Width. -/
structure Pl where
  f : Int
  n : Int
  k : Int
  t : Int
  s : Int
  e : Int
  d : Int
  w : Int
  deriving DecidableEq, Inhabited

/-- A plan's value. -/
abbrev Pl.v (p : Pl) : AV := .agg [.int .u8 p.f, .int .i64 p.n, .int .i64 p.k, .int .i64 p.t, .int .i64 p.s, .int .i64 p.e, .int .i64 p.d, .int .i64 p.w]
/-- A plan's cells. -/
abbrev Pl.cells (p : Pl) : List AV := [.int .u8 p.f, .int .i64 p.n, .int .i64 p.k, .int .i64 p.t, .int .i64 p.s, .int .i64 p.e, .int .i64 p.d, .int .i64 p.w]
/-- The plan that is none. -/
abbrev Pl.o : Pl := ⟨0, 0, 0, 0, 0, 0, 0, 0⟩
/-- Its numbers are of their kinds. -/
structure Pl.Ok (p : Pl) : Prop where
  f : 0 ≤ p.f ∧ p.f ≤ 255
  n : I64 p.n
  k : I64 p.k
  t : I64 p.t
  s : I64 p.s
  e : I64 p.e
  d : I64 p.d
  w : I64 p.w

def Pl.may (p : Pl) : Bool := (p.f == 1 || p.f == 2) && within p.n 1 64 && within p.k 1 64 && within p.w 1 64 && within p.t 0 64 && decide (p.k + p.t ≤ 64) && within p.s 0 64 && within p.e 0 64 && within p.d 0 1024
def Pl.deg (p : Pl) : Int := p.d * (p.k + p.t - 1)
def Pl.spare (p : Pl) : Int := p.n - (p.deg + p.s + 2 * p.e + 1)
def Pl.needed (p : Pl) : Int := p.deg + 2 * p.e + 1
def Pl.accept (p : Pl) : Int := if p.may then (if p.spare < 0 then 120 else 0) else 2

theorem Pl.may_iff {p : Pl} : p.may = true ↔ (p.f = 1 ∨ p.f = 2) ∧ (1 ≤ p.n ∧ p.n ≤ 64) ∧ (1 ≤ p.k ∧ p.k ≤ 64) ∧ (1 ≤ p.w ∧ p.w ≤ 64) ∧ (0 ≤ p.t ∧ p.t ≤ 64) ∧ p.k + p.t ≤ 64 ∧ (0 ≤ p.s ∧ p.s ≤ 64) ∧ (0 ≤ p.e ∧ p.e ≤ 64) ∧ (0 ≤ p.d ∧ p.d ≤ 1024) := by
  simp [Pl.may, within, and_assoc]

theorem Pl.deg_bd {p : Pl} (h : p.may = true) : 0 ≤ p.deg ∧ p.deg ≤ 64512 := by
  obtain ⟨_, _, hk, _, ht, hkt, _, _, hd⟩ := Pl.may_iff.1 h
  unfold Pl.deg
  constructor
  · exact Int.mul_nonneg hd.1 (by omega)
  · calc p.d * (p.k + p.t - 1) ≤ 1024 * (p.k + p.t - 1) := Int.mul_le_mul_of_nonneg_right hd.2 (by omega)
      _ ≤ 64512 := by omega

/-! ### package plan -/
theorem plan_within.a (n a b : Int) : Pure prog 31 [.int .i64 n, .int .i64 a, .int .i64 b] (.bool (within n a b)) := by
  refine pure_of_vc plan_within.k (by simp) ?_
  conv => whnf
  repeat' ((first
    | (with_reducible refine hid_mk ?_)
    | (with_reducible refine bcase_not ?_)
    | (with_reducible refine bcase_true (by with_reducible assumption) ?_)
    | (with_reducible refine bcase_false (by with_reducible assumption) ?_)
    | (with_reducible refine bcase_dt (by omega) ?_)
    | (with_reducible refine bcase_df (by omega) ?_)
    | (with_reducible refine bcase_et (by omega) ?_)
    | (with_reducible refine bcase_ef (by omega) ?_)
    | (with_reducible refine bcase_nt (by omega) ?_)
    | (with_reducible refine bcase_nf (by omega) ?_)
    | (with_reducible refine bcase_dec (fun hb => ?_) (fun hb => ?_))
    | (with_reducible refine bcase_beq (fun hb => ?_) (fun hb => ?_))
    | (with_reducible refine bcase_bne (fun hb => ?_) (fun hb => ?_))
    | (with_reducible refine bcase_nbeq (fun hb => ?_) (fun hb => ?_))
    | (with_reducible refine bcase_mk (fun hb => ?_) (fun hb => ?_))
    | (with_reducible refine both_mk rfl ?_)
    | (with_reducible refine hx _ _ _ rfl ?_)
    | (with_reducible refine hx2 _ _ _ rfl ?_)
    | (with_reducible refine wnum_i64 (by omega) ?_)
    | (with_reducible refine wnum_u64 (by omega) ?_)
    | (with_reducible refine wnum_u8 (by omega) ?_)
    | (with_reducible refine wrem_nn (by omega) ?_)
    | (with_reducible refine wnum_mk ?_)
    | (with_reducible refine wfoc_mapc (by first | with_reducible assumption | omega | (simp; done) | (simp; omega)) ?_)
    | (with_reducible refine wfoc_map (by first | with_reducible assumption | omega | (simp; done) | (simp; omega)) ?_)
    | (with_reducible refine wfoc_flatc (by intro _; rfl) (by first | with_reducible assumption | omega | (simp; done) | (simp; omega)) ?_)
    | (with_reducible refine wfoc_flat (by intro _; rfl) (by first | with_reducible assumption | omega | (simp; done) | (simp; omega)) ?_)
    | (with_reducible refine wald_mapc (by first | with_reducible assumption | omega | (simp; done) | (simp; omega)) ?_)
    | (with_reducible refine wald_map (by first | with_reducible assumption | omega | (simp; done) | (simp; omega)) ?_)
    | (with_reducible refine wast_mapc rfl rfl (by first | with_reducible assumption | omega | (simp; done) | (simp; omega)) ?_)
    | (with_reducible refine wast_map rfl rfl (by first | with_reducible assumption | omega | (simp; done) | (simp; omega)) ?_)
    | (with_reducible refine wrep_int ?_)
    | (with_reducible refine wrep_bool ?_)
    | (with_reducible refine wrep_mk ?_)
    | (with_reducible refine wzero_lt (by omega) ?_)
    | (with_reducible refine wzero_eq (by omega) ?_)
    | (with_reducible refine wcut_all (by first | with_reducible assumption | omega | (simp; done) | (simp; omega)) ?_)
    | (with_reducible refine wcut_map ?_)
    | (with_reducible refine wcat_map (by first | with_reducible assumption | omega | (simp; done) | (simp; omega)) ?_)
    | (with_reducible refine wroom_grow (by omega) ?_)
    | (with_reducible refine wroom_in (by omega) ?_)
    | (refine wfoc_lit (by decide) rfl ?_)
    | (refine wald_lit rfl ?_)
    | (refine wast_lit rfl ?_)
    | (with_reducible refine wcut_lit ?_)
    | (refine wcat_lit rfl ?_)
    | (with_reducible refine ask_mk (by first | with_reducible assumption | omega | (simp; done) | (simp; omega) | (refine ⟨by first | omega | (simp; done) | (simp; omega), by first | rfl | (simp [AV.isCell]; done) | (simp; omega)⟩)) ?_)
    | (with_reducible refine fin_nle (by first | omega | (simp; done) | (simp; omega)))
    | (with_reducible refine fin_nat (by first | omega | (simp; done) | (simp; omega)))
    | (with_reducible refine And.intro (hid_mk (fun hb => ?_)) (hid_mk ?_))
    | (with_reducible refine And.intro (by first | with_reducible assumption | omega | (simp; done) | (simp; omega)) ?_)
    | (with_reducible refine And.intro (fin_el ?_) ?_)) <;> (conv => whnf))
  all_goals exact fin_pure (by simp [within, hb]) (by simp)

theorem plan_May.a (p : Pl) : Pure prog 19 [p.v] (.bool p.may) := by
  refine pure_of_vc plan_May.k (by simp) ?_
  conv => whnf
  repeat' ((first
    | (with_reducible refine hid_mk ?_)
    | (with_reducible refine bcase_not ?_)
    | (with_reducible refine bcase_true (by with_reducible assumption) ?_)
    | (with_reducible refine bcase_false (by with_reducible assumption) ?_)
    | (with_reducible refine bcase_dt (by omega) ?_)
    | (with_reducible refine bcase_df (by omega) ?_)
    | (with_reducible refine bcase_et (by omega) ?_)
    | (with_reducible refine bcase_ef (by omega) ?_)
    | (with_reducible refine bcase_nt (by omega) ?_)
    | (with_reducible refine bcase_nf (by omega) ?_)
    | (with_reducible refine bcase_dec (fun hb => ?_) (fun hb => ?_))
    | (with_reducible refine bcase_beq (fun hb => ?_) (fun hb => ?_))
    | (with_reducible refine bcase_bne (fun hb => ?_) (fun hb => ?_))
    | (with_reducible refine bcase_nbeq (fun hb => ?_) (fun hb => ?_))
    | (with_reducible refine bcase_mk (fun hb => ?_) (fun hb => ?_))
    | (with_reducible refine both_mk rfl ?_)
    | (with_reducible refine hx _ _ _ rfl ?_)
    | (with_reducible refine hx2 _ _ _ rfl ?_)
    | (with_reducible refine Pure.use (plan_within.a ..) ?_)
    | (with_reducible refine wnum_i64 (by omega) ?_)
    | (with_reducible refine wnum_u64 (by omega) ?_)
    | (with_reducible refine wnum_u8 (by omega) ?_)
    | (with_reducible refine wrem_nn (by omega) ?_)
    | (with_reducible refine wnum_mk ?_)
    | (with_reducible refine wfoc_mapc (by first | with_reducible assumption | omega | (simp; done) | (simp; omega)) ?_)
    | (with_reducible refine wfoc_map (by first | with_reducible assumption | omega | (simp; done) | (simp; omega)) ?_)
    | (with_reducible refine wfoc_flatc (by intro _; rfl) (by first | with_reducible assumption | omega | (simp; done) | (simp; omega)) ?_)
    | (with_reducible refine wfoc_flat (by intro _; rfl) (by first | with_reducible assumption | omega | (simp; done) | (simp; omega)) ?_)
    | (with_reducible refine wald_mapc (by first | with_reducible assumption | omega | (simp; done) | (simp; omega)) ?_)
    | (with_reducible refine wald_map (by first | with_reducible assumption | omega | (simp; done) | (simp; omega)) ?_)
    | (with_reducible refine wast_mapc rfl rfl (by first | with_reducible assumption | omega | (simp; done) | (simp; omega)) ?_)
    | (with_reducible refine wast_map rfl rfl (by first | with_reducible assumption | omega | (simp; done) | (simp; omega)) ?_)
    | (with_reducible refine wrep_int ?_)
    | (with_reducible refine wrep_bool ?_)
    | (with_reducible refine wrep_mk ?_)
    | (with_reducible refine wzero_lt (by omega) ?_)
    | (with_reducible refine wzero_eq (by omega) ?_)
    | (with_reducible refine wcut_all (by first | with_reducible assumption | omega | (simp; done) | (simp; omega)) ?_)
    | (with_reducible refine wcut_map ?_)
    | (with_reducible refine wcat_map (by first | with_reducible assumption | omega | (simp; done) | (simp; omega)) ?_)
    | (with_reducible refine wroom_grow (by omega) ?_)
    | (with_reducible refine wroom_in (by omega) ?_)
    | (refine wfoc_lit (by decide) rfl ?_)
    | (refine wald_lit rfl ?_)
    | (refine wast_lit rfl ?_)
    | (with_reducible refine wcut_lit ?_)
    | (refine wcat_lit rfl ?_)
    | (with_reducible refine ask_mk (by first | with_reducible assumption | omega | (simp; done) | (simp; omega) | (refine ⟨by first | omega | (simp; done) | (simp; omega), by first | rfl | (simp [AV.isCell]; done) | (simp; omega)⟩)) ?_)
    | (with_reducible refine fin_nle (by first | omega | (simp; done) | (simp; omega)))
    | (with_reducible refine fin_nat (by first | omega | (simp; done) | (simp; omega)))
    | (with_reducible refine And.intro (hid_mk (fun hb => ?_)) (hid_mk ?_))
    | (with_reducible refine And.intro (by first | with_reducible assumption | omega | (simp; done) | (simp; omega)) ?_)
    | (with_reducible refine And.intro (fin_el ?_) ?_)) <;> (conv => whnf))
  all_goals
    have hw : within p.k 1 64 = true → within p.t 0 64 = true → IntKind.i64.wrap (p.k + p.t) = p.k + p.t := by
      intro a b; simp [within] at a b; exact wrap_i64 (by omega) (by omega)
    refine fin_pure ?_ (by simp)
    simp_all [Pl.may] <;> (intros; omega)

theorem plan_degree.a (p : Pl) (hm : p.may = true) : Pure prog 35 [p.v] (.int .i64 p.deg) := by
  refine pure_of_vc plan_degree.k (by simp) ?_
  conv => whnf
  repeat' ((first
    | (with_reducible refine hid_mk ?_)
    | (with_reducible refine bcase_not ?_)
    | (with_reducible refine bcase_true (by with_reducible assumption) ?_)
    | (with_reducible refine bcase_false (by with_reducible assumption) ?_)
    | (with_reducible refine bcase_dt (by omega) ?_)
    | (with_reducible refine bcase_df (by omega) ?_)
    | (with_reducible refine bcase_et (by omega) ?_)
    | (with_reducible refine bcase_ef (by omega) ?_)
    | (with_reducible refine bcase_nt (by omega) ?_)
    | (with_reducible refine bcase_nf (by omega) ?_)
    | (with_reducible refine bcase_dec (fun hb => ?_) (fun hb => ?_))
    | (with_reducible refine bcase_beq (fun hb => ?_) (fun hb => ?_))
    | (with_reducible refine bcase_bne (fun hb => ?_) (fun hb => ?_))
    | (with_reducible refine bcase_nbeq (fun hb => ?_) (fun hb => ?_))
    | (with_reducible refine bcase_mk (fun hb => ?_) (fun hb => ?_))
    | (with_reducible refine both_mk rfl ?_)
    | (with_reducible refine hx _ _ _ rfl ?_)
    | (with_reducible refine hx2 _ _ _ rfl ?_)
    | (with_reducible refine wnum_i64 (by omega) ?_)
    | (with_reducible refine wnum_u64 (by omega) ?_)
    | (with_reducible refine wnum_u8 (by omega) ?_)
    | (with_reducible refine wrem_nn (by omega) ?_)
    | (with_reducible refine wnum_mk ?_)
    | (with_reducible refine wfoc_mapc (by first | with_reducible assumption | omega | (simp; done) | (simp; omega)) ?_)
    | (with_reducible refine wfoc_map (by first | with_reducible assumption | omega | (simp; done) | (simp; omega)) ?_)
    | (with_reducible refine wfoc_flatc (by intro _; rfl) (by first | with_reducible assumption | omega | (simp; done) | (simp; omega)) ?_)
    | (with_reducible refine wfoc_flat (by intro _; rfl) (by first | with_reducible assumption | omega | (simp; done) | (simp; omega)) ?_)
    | (with_reducible refine wald_mapc (by first | with_reducible assumption | omega | (simp; done) | (simp; omega)) ?_)
    | (with_reducible refine wald_map (by first | with_reducible assumption | omega | (simp; done) | (simp; omega)) ?_)
    | (with_reducible refine wast_mapc rfl rfl (by first | with_reducible assumption | omega | (simp; done) | (simp; omega)) ?_)
    | (with_reducible refine wast_map rfl rfl (by first | with_reducible assumption | omega | (simp; done) | (simp; omega)) ?_)
    | (with_reducible refine wrep_int ?_)
    | (with_reducible refine wrep_bool ?_)
    | (with_reducible refine wrep_mk ?_)
    | (with_reducible refine wzero_lt (by omega) ?_)
    | (with_reducible refine wzero_eq (by omega) ?_)
    | (with_reducible refine wcut_all (by first | with_reducible assumption | omega | (simp; done) | (simp; omega)) ?_)
    | (with_reducible refine wcut_map ?_)
    | (with_reducible refine wcat_map (by first | with_reducible assumption | omega | (simp; done) | (simp; omega)) ?_)
    | (with_reducible refine wroom_grow (by omega) ?_)
    | (with_reducible refine wroom_in (by omega) ?_)
    | (refine wfoc_lit (by decide) rfl ?_)
    | (refine wald_lit rfl ?_)
    | (refine wast_lit rfl ?_)
    | (with_reducible refine wcut_lit ?_)
    | (refine wcat_lit rfl ?_)
    | (with_reducible refine ask_mk (by first | with_reducible assumption | omega | (simp; done) | (simp; omega) | (refine ⟨by first | omega | (simp; done) | (simp; omega), by first | rfl | (simp [AV.isCell]; done) | (simp; omega)⟩)) ?_)
    | (with_reducible refine fin_nle (by first | omega | (simp; done) | (simp; omega)))
    | (with_reducible refine fin_nat (by first | omega | (simp; done) | (simp; omega)))
    | (with_reducible refine And.intro (hid_mk (fun hb => ?_)) (hid_mk ?_))
    | (with_reducible refine And.intro (by first | with_reducible assumption | omega | (simp; done) | (simp; omega)) ?_)
    | (with_reducible refine And.intro (fin_el ?_) ?_)) <;> (conv => whnf))
  refine fin_pure ?_ (by simp)
  have hb := Pl.deg_bd hm
  obtain ⟨_, _, hk, _, ht, hkt, _, _, hd⟩ := Pl.may_iff.1 hm
  simp only [Pl.deg] at hb ⊢
  rw [wrap_i64 (n := p.k + p.t) (by omega) (by omega), wrap_i64 (n := p.k + p.t - 1) (by omega) (by omega), wrap_i64 (by omega) (by omega)]

theorem plan_spare.a (p : Pl) (hm : p.may = true) : Pure prog 33 [p.v] (.int .i64 p.spare) := by
  refine pure_of_vc plan_spare.k (by simp) ?_
  conv => whnf
  repeat' ((first
    | (with_reducible refine hid_mk ?_)
    | (with_reducible refine bcase_not ?_)
    | (with_reducible refine bcase_true (by with_reducible assumption) ?_)
    | (with_reducible refine bcase_false (by with_reducible assumption) ?_)
    | (with_reducible refine bcase_dt (by omega) ?_)
    | (with_reducible refine bcase_df (by omega) ?_)
    | (with_reducible refine bcase_et (by omega) ?_)
    | (with_reducible refine bcase_ef (by omega) ?_)
    | (with_reducible refine bcase_nt (by omega) ?_)
    | (with_reducible refine bcase_nf (by omega) ?_)
    | (with_reducible refine bcase_dec (fun hb => ?_) (fun hb => ?_))
    | (with_reducible refine bcase_beq (fun hb => ?_) (fun hb => ?_))
    | (with_reducible refine bcase_bne (fun hb => ?_) (fun hb => ?_))
    | (with_reducible refine bcase_nbeq (fun hb => ?_) (fun hb => ?_))
    | (with_reducible refine bcase_mk (fun hb => ?_) (fun hb => ?_))
    | (with_reducible refine both_mk rfl ?_)
    | (with_reducible refine hx _ _ _ rfl ?_)
    | (with_reducible refine hx2 _ _ _ rfl ?_)
    | (with_reducible refine Pure.use (plan_degree.a (hm := by assumption) ..) ?_)
    | (with_reducible refine wnum_i64 (by omega) ?_)
    | (with_reducible refine wnum_u64 (by omega) ?_)
    | (with_reducible refine wnum_u8 (by omega) ?_)
    | (with_reducible refine wrem_nn (by omega) ?_)
    | (with_reducible refine wnum_mk ?_)
    | (with_reducible refine wfoc_mapc (by first | with_reducible assumption | omega | (simp; done) | (simp; omega)) ?_)
    | (with_reducible refine wfoc_map (by first | with_reducible assumption | omega | (simp; done) | (simp; omega)) ?_)
    | (with_reducible refine wfoc_flatc (by intro _; rfl) (by first | with_reducible assumption | omega | (simp; done) | (simp; omega)) ?_)
    | (with_reducible refine wfoc_flat (by intro _; rfl) (by first | with_reducible assumption | omega | (simp; done) | (simp; omega)) ?_)
    | (with_reducible refine wald_mapc (by first | with_reducible assumption | omega | (simp; done) | (simp; omega)) ?_)
    | (with_reducible refine wald_map (by first | with_reducible assumption | omega | (simp; done) | (simp; omega)) ?_)
    | (with_reducible refine wast_mapc rfl rfl (by first | with_reducible assumption | omega | (simp; done) | (simp; omega)) ?_)
    | (with_reducible refine wast_map rfl rfl (by first | with_reducible assumption | omega | (simp; done) | (simp; omega)) ?_)
    | (with_reducible refine wrep_int ?_)
    | (with_reducible refine wrep_bool ?_)
    | (with_reducible refine wrep_mk ?_)
    | (with_reducible refine wzero_lt (by omega) ?_)
    | (with_reducible refine wzero_eq (by omega) ?_)
    | (with_reducible refine wcut_all (by first | with_reducible assumption | omega | (simp; done) | (simp; omega)) ?_)
    | (with_reducible refine wcut_map ?_)
    | (with_reducible refine wcat_map (by first | with_reducible assumption | omega | (simp; done) | (simp; omega)) ?_)
    | (with_reducible refine wroom_grow (by omega) ?_)
    | (with_reducible refine wroom_in (by omega) ?_)
    | (refine wfoc_lit (by decide) rfl ?_)
    | (refine wald_lit rfl ?_)
    | (refine wast_lit rfl ?_)
    | (with_reducible refine wcut_lit ?_)
    | (refine wcat_lit rfl ?_)
    | (with_reducible refine ask_mk (by first | with_reducible assumption | omega | (simp; done) | (simp; omega) | (refine ⟨by first | omega | (simp; done) | (simp; omega), by first | rfl | (simp [AV.isCell]; done) | (simp; omega)⟩)) ?_)
    | (with_reducible refine fin_nle (by first | omega | (simp; done) | (simp; omega)))
    | (with_reducible refine fin_nat (by first | omega | (simp; done) | (simp; omega)))
    | (with_reducible refine And.intro (hid_mk (fun hb => ?_)) (hid_mk ?_))
    | (with_reducible refine And.intro (by first | with_reducible assumption | omega | (simp; done) | (simp; omega)) ?_)
    | (with_reducible refine And.intro (fin_el ?_) ?_)) <;> (conv => whnf))
  refine fin_pure ?_ (by simp)
  have hb := Pl.deg_bd hm
  obtain ⟨_, hn, hk, _, ht, hkt, hs, he, hd⟩ := Pl.may_iff.1 hm
  simp only [Pl.spare, IntKind.wrap_i64, AV.int.injEq, true_and] at *
  omega

theorem plan_Accept.a (p : Pl) : Pure prog 24 [p.v] (.int .i64 p.accept) := by
  refine pure_of_vc plan_Accept.k (by simp) ?_
  conv => whnf
  repeat' ((first
    | (with_reducible refine hid_mk ?_)
    | (with_reducible refine bcase_not ?_)
    | (with_reducible refine bcase_true (by with_reducible assumption) ?_)
    | (with_reducible refine bcase_false (by with_reducible assumption) ?_)
    | (with_reducible refine bcase_dt (by omega) ?_)
    | (with_reducible refine bcase_df (by omega) ?_)
    | (with_reducible refine bcase_et (by omega) ?_)
    | (with_reducible refine bcase_ef (by omega) ?_)
    | (with_reducible refine bcase_nt (by omega) ?_)
    | (with_reducible refine bcase_nf (by omega) ?_)
    | (with_reducible refine bcase_dec (fun hb => ?_) (fun hb => ?_))
    | (with_reducible refine bcase_beq (fun hb => ?_) (fun hb => ?_))
    | (with_reducible refine bcase_bne (fun hb => ?_) (fun hb => ?_))
    | (with_reducible refine bcase_nbeq (fun hb => ?_) (fun hb => ?_))
    | (with_reducible refine bcase_mk (fun hb => ?_) (fun hb => ?_))
    | (with_reducible refine both_mk rfl ?_)
    | (with_reducible refine hx _ _ _ rfl ?_)
    | (with_reducible refine hx2 _ _ _ rfl ?_)
    | (with_reducible refine Pure.use (plan_May.a ..) ?_)
    | (with_reducible refine Pure.use (plan_spare.a (hm := by assumption) ..) ?_)
    | (with_reducible refine wnum_i64 (by omega) ?_)
    | (with_reducible refine wnum_u64 (by omega) ?_)
    | (with_reducible refine wnum_u8 (by omega) ?_)
    | (with_reducible refine wrem_nn (by omega) ?_)
    | (with_reducible refine wnum_mk ?_)
    | (with_reducible refine wfoc_mapc (by first | with_reducible assumption | omega | (simp; done) | (simp; omega)) ?_)
    | (with_reducible refine wfoc_map (by first | with_reducible assumption | omega | (simp; done) | (simp; omega)) ?_)
    | (with_reducible refine wfoc_flatc (by intro _; rfl) (by first | with_reducible assumption | omega | (simp; done) | (simp; omega)) ?_)
    | (with_reducible refine wfoc_flat (by intro _; rfl) (by first | with_reducible assumption | omega | (simp; done) | (simp; omega)) ?_)
    | (with_reducible refine wald_mapc (by first | with_reducible assumption | omega | (simp; done) | (simp; omega)) ?_)
    | (with_reducible refine wald_map (by first | with_reducible assumption | omega | (simp; done) | (simp; omega)) ?_)
    | (with_reducible refine wast_mapc rfl rfl (by first | with_reducible assumption | omega | (simp; done) | (simp; omega)) ?_)
    | (with_reducible refine wast_map rfl rfl (by first | with_reducible assumption | omega | (simp; done) | (simp; omega)) ?_)
    | (with_reducible refine wrep_int ?_)
    | (with_reducible refine wrep_bool ?_)
    | (with_reducible refine wrep_mk ?_)
    | (with_reducible refine wzero_lt (by omega) ?_)
    | (with_reducible refine wzero_eq (by omega) ?_)
    | (with_reducible refine wcut_all (by first | with_reducible assumption | omega | (simp; done) | (simp; omega)) ?_)
    | (with_reducible refine wcut_map ?_)
    | (with_reducible refine wcat_map (by first | with_reducible assumption | omega | (simp; done) | (simp; omega)) ?_)
    | (with_reducible refine wroom_grow (by omega) ?_)
    | (with_reducible refine wroom_in (by omega) ?_)
    | (refine wfoc_lit (by decide) rfl ?_)
    | (refine wald_lit rfl ?_)
    | (refine wast_lit rfl ?_)
    | (with_reducible refine wcut_lit ?_)
    | (refine wcat_lit rfl ?_)
    | (with_reducible refine ask_mk (by first | with_reducible assumption | omega | (simp; done) | (simp; omega) | (refine ⟨by first | omega | (simp; done) | (simp; omega), by first | rfl | (simp [AV.isCell]; done) | (simp; omega)⟩)) ?_)
    | (with_reducible refine fin_nle (by first | omega | (simp; done) | (simp; omega)))
    | (with_reducible refine fin_nat (by first | omega | (simp; done) | (simp; omega)))
    | (with_reducible refine And.intro (hid_mk (fun hb => ?_)) (hid_mk ?_))
    | (with_reducible refine And.intro (by first | with_reducible assumption | omega | (simp; done) | (simp; omega)) ?_)
    | (with_reducible refine And.intro (fin_el ?_) ?_)) <;> (conv => whnf))
  all_goals exact fin_pure (by simp_all [Pl.accept] <;> omega) (by simp)

/-- The greatest number of blocks up to n that is accepted; 0: none. -/
def Pl.best (p : Pl) : Nat → Int
  | 0 => 0
  | n + 1 => if Pl.accept { p with k := n + 1 } = 0 then n + 1 else Pl.best p n

theorem Pl.accept_zero {p : Pl} : p.accept = 0 ↔ p.may = true ∧ 0 ≤ p.spare := by
  unfold Pl.accept
  split
  · split <;> simp_all
  · simp_all

theorem Pl.may_k {p : Pl} (h : p.may = true) {k : Int} (h1 : 1 ≤ k) (h2 : k ≤ 64 - p.t) : Pl.may { p with k := k } = true := by
  have := Pl.may_iff.1 h
  rw [Pl.may_iff]
  simp only at *
  omega

/-- Above 64 - T nothing is accepted. -/
theorem Pl.best_top {p : Pl} : ∀ n : Nat, (64 - p.t).toNat ≤ n → p.best n = p.best (64 - p.t).toNat := by
  intro n hn
  induction n with
  | zero => rw [Nat.le_zero.1 hn]
  | succ n ih =>
    by_cases e : (64 - p.t).toNat = n + 1
    · rw [e]
    · rw [← ih (by omega), Pl.best, if_neg]
      rw [Pl.accept_zero]
      rintro ⟨hm, _⟩
      have := Pl.may_iff.1 hm
      simp only at this
      omega

/-- The widest plan, or none. -/
def Pl.widest (p : Pl) : Pl × Int := if p.may then (if p.best 64 = 0 then (Pl.o, 120) else ({ p with k := p.best 64 }, 0)) else (Pl.o, 2)

def Pl.less (p : Pl) (c : Int) : Pl := { p with n := p.n - c, e := max (p.e - c) 0 }
/-- The plan without c workers, or none. -/
def Pl.without (p : Pl) (c : Int) : Pl × Int := if p.may && decide (0 ≤ c ∧ c < p.n) then (p.less c, 0) else (Pl.o, 2)

theorem Pl.may_less {p : Pl} (h : p.may = true) {c : Int} (h0 : 0 ≤ c) (h1 : c < p.n) : (p.less c).may = true := by
  have := Pl.may_iff.1 h
  rw [Pl.may_iff]
  simp only [Pl.less] at *
  omega

theorem plan_Without.a (p : Pl) (c : Int) : Pure prog 23 [p.v, .int .i64 c] (.tup [(p.without c).1.v, .int .i64 (p.without c).2]) := by
  refine pure_of_vc plan_Without.k (by simp) ?_
  conv => whnf
  by_cases hm : p.may = true
  · have hM := Pl.may_iff.1 hm
    by_cases hc : 0 ≤ c ∧ c < p.n
    · have hl := Pl.may_less hm hc.1 hc.2
      have hw : within c 0 (p.n - 1) = true := within_iff.2 (by omega)
      repeat' ((first
    | (with_reducible refine hid_mk ?_)
    | (with_reducible refine bcase_not ?_)
    | (with_reducible refine bcase_true (by with_reducible assumption) ?_)
    | (with_reducible refine bcase_false (by with_reducible assumption) ?_)
    | (with_reducible refine bcase_dt (by omega) ?_)
    | (with_reducible refine bcase_df (by omega) ?_)
    | (with_reducible refine bcase_et (by omega) ?_)
    | (with_reducible refine bcase_ef (by omega) ?_)
    | (with_reducible refine bcase_nt (by omega) ?_)
    | (with_reducible refine bcase_nf (by omega) ?_)
    | (with_reducible refine bcase_dec (fun hb => ?_) (fun hb => ?_))
    | (with_reducible refine bcase_beq (fun hb => ?_) (fun hb => ?_))
    | (with_reducible refine bcase_bne (fun hb => ?_) (fun hb => ?_))
    | (with_reducible refine bcase_nbeq (fun hb => ?_) (fun hb => ?_))
    | (with_reducible refine bcase_mk (fun hb => ?_) (fun hb => ?_))
    | (with_reducible refine both_mk rfl ?_)
    | (with_reducible refine hx _ _ _ rfl ?_)
    | (with_reducible refine hx2 _ _ _ rfl ?_)
    | (with_reducible refine Pure.use (plan_May.a p) ?_)
    | (with_reducible refine Pure.use (plan_within.a ..) ?_)
    | (refine Pure.useE (plan_May.a (p.less c)) (by simp [Pl.less]) ?_)
    | (with_reducible refine wnum_i64 (by omega) ?_)
    | (with_reducible refine wnum_u64 (by omega) ?_)
    | (with_reducible refine wnum_u8 (by omega) ?_)
    | (with_reducible refine wrem_nn (by omega) ?_)
    | (with_reducible refine wnum_mk ?_)
    | (with_reducible refine wfoc_mapc (by first | with_reducible assumption | omega | (simp; done) | (simp; omega)) ?_)
    | (with_reducible refine wfoc_map (by first | with_reducible assumption | omega | (simp; done) | (simp; omega)) ?_)
    | (with_reducible refine wfoc_flatc (by intro _; rfl) (by first | with_reducible assumption | omega | (simp; done) | (simp; omega)) ?_)
    | (with_reducible refine wfoc_flat (by intro _; rfl) (by first | with_reducible assumption | omega | (simp; done) | (simp; omega)) ?_)
    | (with_reducible refine wald_mapc (by first | with_reducible assumption | omega | (simp; done) | (simp; omega)) ?_)
    | (with_reducible refine wald_map (by first | with_reducible assumption | omega | (simp; done) | (simp; omega)) ?_)
    | (with_reducible refine wast_mapc rfl rfl (by first | with_reducible assumption | omega | (simp; done) | (simp; omega)) ?_)
    | (with_reducible refine wast_map rfl rfl (by first | with_reducible assumption | omega | (simp; done) | (simp; omega)) ?_)
    | (with_reducible refine wrep_int ?_)
    | (with_reducible refine wrep_bool ?_)
    | (with_reducible refine wrep_mk ?_)
    | (with_reducible refine wzero_lt (by omega) ?_)
    | (with_reducible refine wzero_eq (by omega) ?_)
    | (with_reducible refine wcut_all (by first | with_reducible assumption | omega | (simp; done) | (simp; omega)) ?_)
    | (with_reducible refine wcut_map ?_)
    | (with_reducible refine wcat_map (by first | with_reducible assumption | omega | (simp; done) | (simp; omega)) ?_)
    | (with_reducible refine wroom_grow (by omega) ?_)
    | (with_reducible refine wroom_in (by omega) ?_)
    | (refine wfoc_lit (by decide) rfl ?_)
    | (refine wald_lit rfl ?_)
    | (refine wast_lit rfl ?_)
    | (with_reducible refine wcut_lit ?_)
    | (refine wcat_lit rfl ?_)
    | (with_reducible refine ask_mk (by first | with_reducible assumption | omega | (simp; done) | (simp; omega) | (refine ⟨by first | omega | (simp; done) | (simp; omega), by first | rfl | (simp [AV.isCell]; done) | (simp; omega)⟩)) ?_)
    | (with_reducible refine fin_nle (by first | omega | (simp; done) | (simp; omega)))
    | (with_reducible refine fin_nat (by first | omega | (simp; done) | (simp; omega)))
    | (with_reducible refine And.intro (hid_mk (fun hb => ?_)) (hid_mk ?_))
    | (with_reducible refine And.intro (by first | with_reducible assumption | omega | (simp; done) | (simp; omega)) ?_)
    | (with_reducible refine And.intro (fin_el ?_) ?_)) <;> (conv => whnf))
      exact fin_pure (by simp [Pl.without, hm, hc, Pl.less]) (by simp)
    · have hw : within c 0 (p.n - 1) = false := by simp [within]; omega
      repeat' ((first
    | (with_reducible refine hid_mk ?_)
    | (with_reducible refine bcase_not ?_)
    | (with_reducible refine bcase_true (by with_reducible assumption) ?_)
    | (with_reducible refine bcase_false (by with_reducible assumption) ?_)
    | (with_reducible refine bcase_dt (by omega) ?_)
    | (with_reducible refine bcase_df (by omega) ?_)
    | (with_reducible refine bcase_et (by omega) ?_)
    | (with_reducible refine bcase_ef (by omega) ?_)
    | (with_reducible refine bcase_nt (by omega) ?_)
    | (with_reducible refine bcase_nf (by omega) ?_)
    | (with_reducible refine bcase_dec (fun hb => ?_) (fun hb => ?_))
    | (with_reducible refine bcase_beq (fun hb => ?_) (fun hb => ?_))
    | (with_reducible refine bcase_bne (fun hb => ?_) (fun hb => ?_))
    | (with_reducible refine bcase_nbeq (fun hb => ?_) (fun hb => ?_))
    | (with_reducible refine bcase_mk (fun hb => ?_) (fun hb => ?_))
    | (with_reducible refine both_mk rfl ?_)
    | (with_reducible refine hx _ _ _ rfl ?_)
    | (with_reducible refine hx2 _ _ _ rfl ?_)
    | (with_reducible refine Pure.use (plan_May.a p) ?_)
    | (with_reducible refine Pure.use (plan_within.a ..) ?_)
    | (with_reducible refine wnum_i64 (by omega) ?_)
    | (with_reducible refine wnum_u64 (by omega) ?_)
    | (with_reducible refine wnum_u8 (by omega) ?_)
    | (with_reducible refine wrem_nn (by omega) ?_)
    | (with_reducible refine wnum_mk ?_)
    | (with_reducible refine wfoc_mapc (by first | with_reducible assumption | omega | (simp; done) | (simp; omega)) ?_)
    | (with_reducible refine wfoc_map (by first | with_reducible assumption | omega | (simp; done) | (simp; omega)) ?_)
    | (with_reducible refine wfoc_flatc (by intro _; rfl) (by first | with_reducible assumption | omega | (simp; done) | (simp; omega)) ?_)
    | (with_reducible refine wfoc_flat (by intro _; rfl) (by first | with_reducible assumption | omega | (simp; done) | (simp; omega)) ?_)
    | (with_reducible refine wald_mapc (by first | with_reducible assumption | omega | (simp; done) | (simp; omega)) ?_)
    | (with_reducible refine wald_map (by first | with_reducible assumption | omega | (simp; done) | (simp; omega)) ?_)
    | (with_reducible refine wast_mapc rfl rfl (by first | with_reducible assumption | omega | (simp; done) | (simp; omega)) ?_)
    | (with_reducible refine wast_map rfl rfl (by first | with_reducible assumption | omega | (simp; done) | (simp; omega)) ?_)
    | (with_reducible refine wrep_int ?_)
    | (with_reducible refine wrep_bool ?_)
    | (with_reducible refine wrep_mk ?_)
    | (with_reducible refine wzero_lt (by omega) ?_)
    | (with_reducible refine wzero_eq (by omega) ?_)
    | (with_reducible refine wcut_all (by first | with_reducible assumption | omega | (simp; done) | (simp; omega)) ?_)
    | (with_reducible refine wcut_map ?_)
    | (with_reducible refine wcat_map (by first | with_reducible assumption | omega | (simp; done) | (simp; omega)) ?_)
    | (with_reducible refine wroom_grow (by omega) ?_)
    | (with_reducible refine wroom_in (by omega) ?_)
    | (refine wfoc_lit (by decide) rfl ?_)
    | (refine wald_lit rfl ?_)
    | (refine wast_lit rfl ?_)
    | (with_reducible refine wcut_lit ?_)
    | (refine wcat_lit rfl ?_)
    | (with_reducible refine ask_mk (by first | with_reducible assumption | omega | (simp; done) | (simp; omega) | (refine ⟨by first | omega | (simp; done) | (simp; omega), by first | rfl | (simp [AV.isCell]; done) | (simp; omega)⟩)) ?_)
    | (with_reducible refine fin_nle (by first | omega | (simp; done) | (simp; omega)))
    | (with_reducible refine fin_nat (by first | omega | (simp; done) | (simp; omega)))
    | (with_reducible refine And.intro (hid_mk (fun hb => ?_)) (hid_mk ?_))
    | (with_reducible refine And.intro (by first | with_reducible assumption | omega | (simp; done) | (simp; omega)) ?_)
    | (with_reducible refine And.intro (fin_el ?_) ?_)) <;> (conv => whnf))
      exact fin_pure (by simp [Pl.without, hm, hc]) (by simp)
  · have hm' : p.may = false := by simpa using hm
    repeat' ((first
    | (with_reducible refine hid_mk ?_)
    | (with_reducible refine bcase_not ?_)
    | (with_reducible refine bcase_true (by with_reducible assumption) ?_)
    | (with_reducible refine bcase_false (by with_reducible assumption) ?_)
    | (with_reducible refine bcase_dt (by omega) ?_)
    | (with_reducible refine bcase_df (by omega) ?_)
    | (with_reducible refine bcase_et (by omega) ?_)
    | (with_reducible refine bcase_ef (by omega) ?_)
    | (with_reducible refine bcase_nt (by omega) ?_)
    | (with_reducible refine bcase_nf (by omega) ?_)
    | (with_reducible refine bcase_dec (fun hb => ?_) (fun hb => ?_))
    | (with_reducible refine bcase_beq (fun hb => ?_) (fun hb => ?_))
    | (with_reducible refine bcase_bne (fun hb => ?_) (fun hb => ?_))
    | (with_reducible refine bcase_nbeq (fun hb => ?_) (fun hb => ?_))
    | (with_reducible refine bcase_mk (fun hb => ?_) (fun hb => ?_))
    | (with_reducible refine both_mk rfl ?_)
    | (with_reducible refine hx _ _ _ rfl ?_)
    | (with_reducible refine hx2 _ _ _ rfl ?_)
    | (with_reducible refine Pure.use (plan_May.a p) ?_)
    | (with_reducible refine wnum_i64 (by omega) ?_)
    | (with_reducible refine wnum_u64 (by omega) ?_)
    | (with_reducible refine wnum_u8 (by omega) ?_)
    | (with_reducible refine wrem_nn (by omega) ?_)
    | (with_reducible refine wnum_mk ?_)
    | (with_reducible refine wfoc_mapc (by first | with_reducible assumption | omega | (simp; done) | (simp; omega)) ?_)
    | (with_reducible refine wfoc_map (by first | with_reducible assumption | omega | (simp; done) | (simp; omega)) ?_)
    | (with_reducible refine wfoc_flatc (by intro _; rfl) (by first | with_reducible assumption | omega | (simp; done) | (simp; omega)) ?_)
    | (with_reducible refine wfoc_flat (by intro _; rfl) (by first | with_reducible assumption | omega | (simp; done) | (simp; omega)) ?_)
    | (with_reducible refine wald_mapc (by first | with_reducible assumption | omega | (simp; done) | (simp; omega)) ?_)
    | (with_reducible refine wald_map (by first | with_reducible assumption | omega | (simp; done) | (simp; omega)) ?_)
    | (with_reducible refine wast_mapc rfl rfl (by first | with_reducible assumption | omega | (simp; done) | (simp; omega)) ?_)
    | (with_reducible refine wast_map rfl rfl (by first | with_reducible assumption | omega | (simp; done) | (simp; omega)) ?_)
    | (with_reducible refine wrep_int ?_)
    | (with_reducible refine wrep_bool ?_)
    | (with_reducible refine wrep_mk ?_)
    | (with_reducible refine wzero_lt (by omega) ?_)
    | (with_reducible refine wzero_eq (by omega) ?_)
    | (with_reducible refine wcut_all (by first | with_reducible assumption | omega | (simp; done) | (simp; omega)) ?_)
    | (with_reducible refine wcut_map ?_)
    | (with_reducible refine wcat_map (by first | with_reducible assumption | omega | (simp; done) | (simp; omega)) ?_)
    | (with_reducible refine wroom_grow (by omega) ?_)
    | (with_reducible refine wroom_in (by omega) ?_)
    | (refine wfoc_lit (by decide) rfl ?_)
    | (refine wald_lit rfl ?_)
    | (refine wast_lit rfl ?_)
    | (with_reducible refine wcut_lit ?_)
    | (refine wcat_lit rfl ?_)
    | (with_reducible refine ask_mk (by first | with_reducible assumption | omega | (simp; done) | (simp; omega) | (refine ⟨by first | omega | (simp; done) | (simp; omega), by first | rfl | (simp [AV.isCell]; done) | (simp; omega)⟩)) ?_)
    | (with_reducible refine fin_nle (by first | omega | (simp; done) | (simp; omega)))
    | (with_reducible refine fin_nat (by first | omega | (simp; done) | (simp; omega)))
    | (with_reducible refine And.intro (hid_mk (fun hb => ?_)) (hid_mk ?_))
    | (with_reducible refine And.intro (by first | with_reducible assumption | omega | (simp; done) | (simp; omega)) ?_)
    | (with_reducible refine And.intro (fin_el ?_) ?_)) <;> (conv => whnf))
    exact fin_pure (by simp [Pl.without, hm']) (by simp)

end Go.Proofs.Ytbalpmdoeikkbaa.C
