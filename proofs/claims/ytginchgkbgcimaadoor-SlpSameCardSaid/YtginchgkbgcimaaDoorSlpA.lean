/- Straight-line programs: values; May, both. -/
import Derived.Test.YtginchgkbgcimaaDoorCslp
import Derived.Test.YtginchgkbgcimaaDoorCref09
import Derived.Test.YtginchgkbgcimaaDoorClaw09
import Derived.Test.YtginchgkbgcimaaDoorArow
namespace Go.Proofs.YtginchgkbgcimaaDoor.C
open Go Go.RowKit Go.Proofs.YtginchgkbgcimaaDoor.AL
set_option maxRecDepth 100000
set_option maxHeartbeats 40000000
set_option linter.unusedVariables false
set_option linter.unusedSimpArgs false

noncomputable abbrev prog := Go.Proofs.Tryd.prog

/-- A step. -/
structure SOp where
  k : Int
  a : Int
  b : Int
  c : Int
  deriving Inhabited, DecidableEq
abbrev SOp.enc (o : SOp) : List AV := [.int .u8 o.k, .int .i64 o.a, .int .i64 o.b, .int .u64 o.c]
abbrev opsV (l : List SOp) : AV := .islice false l.length (l.flatMap SOp.enc)
/-- A program. -/
structure SProg where
  n : Int
  ops : List SOp
  outs : List Int
  deriving Inhabited, DecidableEq
abbrev SProg.cells (p : SProg) : List AV := [.int .i64 p.n, opsV p.ops, i64s p.outs]
abbrev SProg.v (p : SProg) : AV := .agg p.cells
theorem opsV_cl (l : List SOp) : IdLt 0 (opsV l) := idLt_fl (by intro a _; simp)
theorem cells_cl (p : SProg) : ∀ x ∈ p.cells, IdLt 0 x := List.forall_mem_cons.2 ⟨by simp, List.forall_mem_cons.2 ⟨opsV_cl _, by simp⟩⟩
theorem sprog_cl (p : SProg) : IdLt 0 p.v := .agg _ (cells_cl p)

def SOp.ok (own : Int) (o : SOp) : Prop := ((o.k = 1 ∨ o.k = 2 ∨ o.k = 3) ∧ (0 ≤ o.a ∧ o.a < own) ∧ (0 ≤ o.b ∧ o.b < own) ∧ o.c = 0) ∨ (o.k = 4 ∧ o.a = 0 ∧ o.b = 0)
structure SMay (p : SProg) : Prop where
  n : 0 ≤ p.n ∧ p.n ≤ 64
  l : p.ops.length ≤ 256
  m : p.outs.length ≤ 64
  ops : ∀ i, i < p.ops.length → (gt p.ops i).ok (p.n + i)
  outs : ∀ i, i < p.outs.length → 0 ≤ gt p.outs i ∧ gt p.outs i < p.n + p.ops.length

/-- Its lists are no longer than lists may be. -/
def SProg.len (p : SProg) : Prop := p.ops.length ≤ 17592186043904 ∧ p.outs.length ≤ 17592186043904

set_option maxRecDepth 1000000
theorem slp_May.t (p : SProg) (hm : SMay p) : Pure prog 16 [p.v] (.bool true) := by
  obtain ⟨m1, m2, m3, m4, m5⟩ := hm
  refine pure_of_vc slp_May.k (List.forall_mem_cons.2 ⟨sprog_cl p, by simp⟩) ?_
  conv => whnf
  repeat' ((first | (with_reducible refine hid_mk ?_) | (with_reducible refine bcase_df (by omega) ?_) | (with_reducible refine vblk_same ?_)) <;> (conv => whnf))
  refine vloopW slp_May.D0 (fun k : Nat => [(29, .int .i64 k)]) (fun _ => [.cells p.cells none]) (fun k => k ≤ p.ops.length) (fun k => p.ops.length - k) 0 (by omega) rfl ?_ ?_
  · (with_reducible refine wk_force ?_); (conv => whnf); (with_reducible refine hid_mk ?_); (repeat (first | with_reducible refine Wk.wild ?_ | refine Wk.cons (by first | with_reducible rfl | exact congrArg (AV.int _) (by first | rfl) | fail) ?_)); with_reducible exact Wk.nil
  rintro k hk Q' hn hx
  try dsimp only at hk ⊢
  by_cases hkl : k < p.ops.length
  · have ho := m4 k hkl
    unfold SOp.ok at ho
    rcases ho with ⟨h1, h2, h3, h4⟩ | ⟨h1, h2, h3⟩
    · conv => whnf
      repeat' ((first | (with_reducible refine hid_mk ?_) | (with_reducible refine bcase_dt (by omega) ?_) | (with_reducible refine bcase_df (by omega) ?_) | (with_reducible refine bcase_et (by omega) ?_) | (with_reducible refine bcase_nf (by omega) ?_) | (with_reducible refine bcase_beq (fun hb => ?_) (fun hb => ?_)) | (with_reducible refine vblk_same ?_) | (with_reducible refine wnum_i64 (by omega) ?_) | (with_reducible refine wfoc_flatc (by intro _; with_unfolding_all rfl) (by first | with_reducible assumption) ?_) | (with_reducible refine And.intro (by first | with_reducible assumption | omega) ?_)) <;> (conv => whnf))
      all_goals first
        | (((refine hn (k + 1) (by omega) (by omega) _ _ (.inr (next_fin (fun ts h => [0]) ?_))); (simp only [List.map_nil]); (conv => whnf); (refine hid_mk ⟨⟨?_, trivial⟩, ?_⟩); (all_goals first | (first | exact objR_same (by simp) rfl rfl (cells_cl _) | fail) | ((with_reducible refine rsl_force ?_); (conv => whnf); (with_reducible refine hid_mk ?_); (repeat (first | with_reducible exact RsL.nil | with_reducible refine RsL.cons (Rs.wild _) ?_ | with_reducible refine RsL.cons (Rs.int_eq (by first | rfl | omega)) ?_ | with_reducible refine RsL.cons (Rs.ptr _ _ _ rfl) ?_ | refine RsL.cons (Rs.eq rfl (by first | exact idLt_mapI (by intro a; simp) | (simp; done) | exact idLt_fl (by intro a _; simp) | exact sprog_cl _)) ?_))))); done)
        | (exfalso; omega)
        | fail
    · conv => whnf
      repeat' ((first | (with_reducible refine hid_mk ?_) | (with_reducible refine bcase_dt (by omega) ?_) | (with_reducible refine bcase_et (by omega) ?_) | (with_reducible refine bcase_ef (by omega) ?_) | (with_reducible refine bcase_nf (by omega) ?_) | (with_reducible refine vblk_same ?_) | (with_reducible refine wnum_i64 (by omega) ?_) | (with_reducible refine wfoc_flatc (by intro _; with_unfolding_all rfl) (by first | with_reducible assumption) ?_) | (with_reducible refine And.intro (by first | with_reducible assumption | omega) ?_)) <;> (conv => whnf))
      all_goals first
        | (((refine hn (k + 1) (by omega) (by omega) _ _ (.inr (next_fin (fun ts h => [0]) ?_))); (simp only [List.map_nil]); (conv => whnf); (refine hid_mk ⟨⟨?_, trivial⟩, ?_⟩); (all_goals first | (first | exact objR_same (by simp) rfl rfl (cells_cl _) | fail) | ((with_reducible refine rsl_force ?_); (conv => whnf); (with_reducible refine hid_mk ?_); (repeat (first | with_reducible exact RsL.nil | with_reducible refine RsL.cons (Rs.wild _) ?_ | with_reducible refine RsL.cons (Rs.int_eq (by first | rfl | omega)) ?_ | with_reducible refine RsL.cons (Rs.ptr _ _ _ rfl) ?_ | refine RsL.cons (Rs.eq rfl (by first | exact idLt_mapI (by intro a; simp) | (simp; done) | exact idLt_fl (by intro a _; simp) | exact sprog_cl _)) ?_))))); done)
        | (exfalso; omega)
        | fail
  · conv => whnf
    repeat' ((first | (with_reducible refine hid_mk ?_) | (with_reducible refine bcase_df (by omega) ?_) | (with_reducible refine hx _ _ _ rfl ?_) | (with_reducible refine acalls_of_vc slices_ContainsFunc_int_int.k ?_) | (with_reducible refine acalls_of_vc slices_IndexFunc_int_int.k ?_) | (with_reducible refine vblk_same ?_)) <;> (conv => whnf))
    refine vloopW slices_IndexFunc_int_int.D0 (fun j : Nat => [(8, .int .i64 j)]) (fun _ => [.cells p.cells none]) (fun j => j ≤ p.outs.length) (fun j => p.outs.length - j) 0 (by omega) rfl ?_ ?_
    · (with_reducible refine wk_force ?_); (conv => whnf); (with_reducible refine hid_mk ?_); (repeat (first | with_reducible refine Wk.wild ?_ | refine Wk.cons (by first | with_reducible rfl | exact congrArg (AV.int _) (by first | rfl) | fail) ?_)); with_reducible exact Wk.nil
    rintro j hj Q2 hn2 hx2
    try dsimp only at hj ⊢
    have ho := fun h : j < p.outs.length => m5 j h
    conv => whnf
    repeat' ((first | (with_reducible refine hid_mk ?_) | (with_reducible refine bcase_df (by omega) ?_) | (with_reducible refine bcase_dec (fun hb => ?_) (fun hb => ?_)) | (with_reducible refine hx2 _ _ _ rfl ?_) | (with_reducible refine fin_inl ?_) | (with_reducible refine acalls_of_vc slp_May_1.k ?_) | (with_reducible refine vblk_same ?_) | (with_reducible refine wnum_i64 (by omega) ?_) | (with_reducible refine wfoc_mapc (by first | omega) ?_) | (with_reducible refine fin_hb (by kernel_rfl)) | (with_reducible refine And.intro (by first | with_reducible assumption | omega) ?_) | (with_reducible refine And.intro (fin_el ?_) ?_)) <;> (conv => whnf))
    all_goals first
      | exact hn2 (j + 1) (by omega) (by omega) _ _ (.inl ⟨rfl, by (with_reducible refine wk_force ?_); (conv => whnf); (with_reducible refine hid_mk ?_); (repeat (first | with_reducible refine Wk.wild ?_ | refine Wk.cons (by first | with_reducible rfl | exact congrArg (AV.int _) (by first | rfl) | fail) ?_)); with_reducible exact Wk.nil⟩)
      | exact fin_pure rfl (by simp)
      | (exfalso; have := ho (by omega); omega)
      | fail

end Go.Proofs.YtginchgkbgcimaaDoor.C
