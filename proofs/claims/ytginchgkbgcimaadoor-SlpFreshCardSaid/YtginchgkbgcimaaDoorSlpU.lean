/- Straight-line programs: the document's Copy. -/
import Derived.Test.YtginchgkbgcimaaDoorSlpR
import Derived.Test.YtginchgkbgcimaaDoorSlpS
import Derived.Test.YtginchgkbgcimaaDoorAown
namespace Go.Proofs.YtginchgkbgcimaaDoor.C
open Go Go.RowKit Go.Proofs.YtginchgkbgcimaaDoor.AL
set_option maxRecDepth 100000
set_option maxHeartbeats 40000000
set_option linter.unusedVariables false
set_option linter.unusedSimpArgs false

theorem ty_sprog2 {n b : Nat} {cz : List AV} (h : TyOk prog (n + 5) 25 cz b) : ∃ p : SProg, cz = p.cells ∧ p.len ∧ p.ops.length ≤ 4398046510976 := by
  obtain ⟨a1, b1, r1, c1, h1, g1, e1, _⟩ := ty_struct Tryd.underlying25 h
  obtain ⟨x, rfl, _⟩ := ty_i64 Tryd.underlying3 h1
  obtain ⟨a2, b2, r2, c2, h2, g2, e2, _⟩ := g1
  obtain ⟨l, rfl, _, hl, _⟩ := ty_slice Tryd.underlying22 h2 SOp.enc (fun _ _ => True) (fun cs b h => by
    obtain ⟨x, e⟩ := ty_sop h
    exact ⟨x, e, trivial⟩)
  have hb : Program.bytesOf prog 47 = 32 := by kernel_rfl
  rw [hb, reach_eq] at hl
  obtain ⟨a3, b3, r3, c3, h3, g3, e3, _⟩ := g2
  obtain ⟨m, rfl, hm, _, _⟩ := cz_of_i64s Tryd.underlying23 Tryd.underlying3 (by kernel_rfl) h3
  have e4 : r3 = [] := g3
  subst e4 e3 e2 e1
  exact ⟨⟨x, l, m⟩, rfl, by dsimp only [SProg.len]; omega, by dsimp only; omega⟩
theorem arg_sprog2 {n b : Nat} {a : AV} (h : ArgOk prog (n + 5) 25 a b) : ∃ p : SProg, a = p.v ∧ p.len ∧ p.ops.length ≤ 4398046510976 := by
  unfold ArgOk at h
  rw [Tryd.underlying25] at h
  obtain ⟨cz, rfl, h⟩ := h
  obtain ⟨p, rfl, hp⟩ := ty_sprog2 h
  exact ⟨p, rfl, hp⟩

set_option maxRecDepth 1000000
theorem ref09_Copy.a (p : SProg) (hl : p.len) (hl1 : p.ops.length ≤ 4398046510976) : Pure prog 20 [p.v] p.v := by
  have hl2 := hl.2
  have hfl : (p.ops.flatMap SOp.enc).length = p.ops.length * 4 := flat_len (s := 4) (by intro _; rfl) p.ops
  refine pure_of_vc ref09_Copy.k (List.forall_mem_cons.2 ⟨sprog_cl p, by simp⟩) ?_
  by_cases ho : p.ops = [] <;> by_cases hu : p.outs = []
  · have hol : p.ops.length = 0 := by rw [ho]; rfl
    have hul : p.outs.length = 0 := by rw [hu]; rfl
    conv => whnf
    repeat' ((first | (with_reducible refine hid_mk ?_) | (with_reducible refine bcase_nbT (by omega) ?_) | (with_reducible refine And.intro (by first | with_reducible assumption | (simp; done)) ?_)) <;> (conv => whnf))
    all_goals exact fin_rs [2, 3, 4, 5] (Rs.aggL (.cons (.int_eq rfl) (.cons (rs_ops (L := []) ho.symm (by simp) rfl rfl rfl) (.cons (rs_ownO (O := []) hu.symm (by simp) rfl rfl rfl) .nil))))
  · have hol : p.ops.length = 0 := by rw [ho]; rfl
    have hul : 0 < p.outs.length := List.length_pos_iff.2 hu
    conv => whnf
    repeat' ((first | (with_reducible refine hid_mk ?_) | (with_reducible refine bcase_nbT (by omega) ?_) | (with_reducible refine bcase_nbF (by omega) ?_) | (with_reducible refine wcat_zero (by omega) ?_) | (with_reducible refine wroom_grow (by omega) ?_) | (with_reducible refine ask_mk (by first | with_reducible assumption | omega | (refine ⟨by first | omega | (simp; done) | (simp; omega), by first | rfl | (simp [AV.isCell]; done) | (simp; omega)⟩)) ?_) | (with_reducible refine And.intro (by first | with_reducible assumption | (simp; done)) ?_)) <;> (conv => whnf))
    all_goals exact fin_rs [2, 3, 4, 5] (Rs.aggL (.cons (.int_eq rfl) (.cons (rs_ops (L := []) ho.symm (by simp) rfl rfl rfl) (.cons (rs_ownO rfl (by simp) rfl rfl (by omega)) .nil))))
  · have hol : 0 < p.ops.length := List.length_pos_iff.2 ho
    have hul : p.outs.length = 0 := by rw [hu]; rfl
    conv => whnf
    repeat' ((first | (with_reducible refine hid_mk ?_) | (with_reducible refine bcase_nbT (by omega) ?_) | (with_reducible refine bcase_nbF (by omega) ?_) | (with_reducible refine wcat_zero (by omega) ?_) | (with_reducible refine wroom_grow (by omega) ?_) | (with_reducible refine ask_mk (by first | with_reducible assumption | omega | (refine ⟨by first | omega | (simp; done) | (simp; omega), by first | rfl | (simp [AV.isCell]; done) | (simp; omega)⟩)) ?_) | (with_reducible refine And.intro (by first | with_reducible assumption | (simp; done)) ?_)) <;> (conv => whnf))
    all_goals exact fin_rs [2, 3, 4, 5] (Rs.aggL (.cons (.int_eq rfl) (.cons (rs_ops rfl (by simp) rfl rfl (by omega)) (.cons (rs_ownO (O := []) hu.symm (by simp) rfl rfl rfl) .nil))))
  · have hol : 0 < p.ops.length := List.length_pos_iff.2 ho
    have hul : 0 < p.outs.length := List.length_pos_iff.2 hu
    conv => whnf
    repeat' ((first | (with_reducible refine hid_mk ?_) | (with_reducible refine bcase_nbF (by omega) ?_) | (with_reducible refine wcat_zero (by omega) ?_) | (with_reducible refine wroom_grow (by omega) ?_) | (with_reducible refine ask_mk (by first | with_reducible assumption | omega | (refine ⟨by first | omega | (simp; done) | (simp; omega), by first | rfl | (simp [AV.isCell]; done) | (simp; omega)⟩)) ?_) | (with_reducible refine And.intro (by first | with_reducible assumption | (simp; done)) ?_)) <;> (conv => whnf))
    all_goals exact fin_rs [2, 3, 4, 5] (Rs.aggL (.cons (.int_eq rfl) (.cons (rs_ops rfl (by simp) rfl rfl (by omega)) (.cons (rs_ownO rfl (by simp) rfl rfl (by omega)) .nil))))

end Go.Proofs.YtginchgkbgcimaaDoor.C

namespace Go.Proofs.YtginchgkbgcimaaDoor.C
open Go Go.RowKit Go.Proofs.YtginchgkbgcimaaDoor.AL
set_option maxRecDepth 100000
set_option maxHeartbeats 40000000
set_option linter.unusedVariables false
set_option linter.unusedSimpArgs false

theorem wast_gen {cs : List AV} {k j s o n m : Nat} {v : AV} {K : List AV → Prop} (e : ((v.cellList.length == n) && v.cellList.all AV.isCell) = true) (hm : cs.length = m) (hb : k + j * s + o + n ≤ m) (q : ∀ ds : List AV, ds.length = m → K ds) : wast cs k j s o n v K := by
  subst hm
  refine ⟨req_mk ?_ (q _ (setMany_length _ _ _))⟩
  rw [e]; simpa using hb
abbrev frTs : List AV := [.wild, .wild, .ptr 0 0, .ptr 1 0, .bool false, .ptr 2 0, .ptr 3 0, .ptr 6 0, .int .i64 0, .ptr 7 0, .int .i64 0] ++ List.replicate 70 .wild
abbrev frH (p q r : SProg) : Heap := [.cells p.cells none, .cells q.cells none, .cells p.cells none, .cells q.cells none, .cells (List.replicate (r.ops.length * 4) .wild) (some 4), .cells (List.replicate r.outs.length .wild) (some 1),
  .cells [.int .i64 r.n, .slice 4 0 r.ops.length r.ops.length, .slice 5 0 r.outs.length r.outs.length] none, .cells r.cells none]
def frB : ACode := (blkL 0 law09_SlpFresh.c).getD .skip
def frR : ACode := (blkR 0 law09_SlpFresh.c).getD .skip
def frB2 : ACode := (blkL 2 law09_SlpFresh.c).getD .skip
def frR2 : ACode := (blkR 2 law09_SlpFresh.c).getD .skip
abbrev frQ : Post := retQ [RV.tmp 4] (Back 0 fun e h' => e = AEnd.ret (AV.bool true) ∧ h' = [])

set_option maxRecDepth 1000000
theorem SlpFresh.lp2 (p q r : SProg) (hp : p.len) (hq : q.len) (hr1 : r.ops.length ≤ 256) (hr2 : r.outs.length ≤ 64) (hz : Pure prog 19 [p.v, q.v] (.tup [r.v, .int .i64 0]))
    {ts : List AV} {h : Heap} (N : List Nat) (nd : N.Nodup) (ho : ObjsR (h ++ List.replicate 0 gho) N [] N (frH p q r))
    (hr : RsL (h ++ List.replicate 0 gho) N [] ts (ovr [(12, .int .i64 (0 : Nat))] (wildAt law09_SlpFresh.D1 frTs))) : VLoop 0 (fun Q ts h => AL.hid (vc Tryd.prog 0 frB2 Q ts h)) (blkQ 2 (seqQ (fun ts h => AL.hid (vc Tryd.prog 0 frR2 frQ ts h)) frQ)) ts h := by
  have hA := anchored.q
  have hSp := ref09_Same.a p p hp
  have hSq := ref09_Same.a q q hq
  have hSr := ref09_Same.a r r ⟨by omega, by omega⟩
  rw [decide_eq_true rfl] at hSp hSq hSr
  refine vloopN 0 N [] law09_SlpFresh.D1 (fun j : Nat => [(12, .int .i64 j)]) (fun _ => frH p q r) (fun j => j ≤ r.outs.length) (fun j => r.outs.length - j) 0 (by omega) nd (by simp) ho frTs hr ?_
  rintro j hj Q2 hn hx
  clear hr ho
  try dsimp only at hj ⊢
  simp only [frH]
  by_cases hjl : j < r.outs.length
  · conv => whnf
    repeat' ((first | (with_reducible refine hid_mk ?_) | (with_reducible refine bcase_dt (by omega) ?_) | (refine wast_gen (m := r.outs.length) (by rfl) (by simp) (by simp <;> omega) (fun ds hds => ?_)) | (with_reducible refine vblk_same ?_) | (with_reducible refine wnum_i64 (by omega) ?_) | (with_reducible refine And.intro (by first | with_reducible assumption | omega) ?_)) <;> (conv => whnf))
    all_goals first
      | ((refine hn (j + 1) (by omega) (by omega) _ _ (.inr (next_fin (fun ts h => [0, 1, 2, 3, 4, 5, 6, 7]) ?_))); (simp only [frH]); (conv => whnf); (refine AL.hid_mk ⟨⟨?_, ?_, ?_, ?_, ?_, ?_, ?_, ?_, trivial⟩, ?_⟩); (all_goals first | exact objR_cells (by simp) rfl (RsL.wilds (by assumption)) | (first | exact objR_same (by simp) rfl rfl (cells_cl _) | (refine objR_cells (by simp) rfl ?_; (first | (refine rsl_lit ?_; (conv => whnf); with_reducible refine hid_mk ?_; (repeat (first | with_reducible exact RsL.nil | with_reducible refine RsL.cons (Rs.int_eq (by first | rfl)) ?_ | with_reducible refine RsL.cons (Rs.slice_eq rfl (by first | rfl) (by first | rfl) (by first | rfl)) ?_)); done) | ((repeat (first | with_reducible exact RsL.wilds (by first | (simp; done)))); done) | fail)) | fail) | ((with_reducible refine rsl_force ?_); (conv => whnf); (with_reducible refine hid_mk ?_); (repeat (first | with_reducible exact RsL.nil | with_reducible refine RsL.cons (Rs.wild _) ?_ | with_reducible refine RsL.cons (Rs.int_eq (by first | rfl | omega)) ?_ | with_reducible refine RsL.cons (Rs.ptr _ _ _ rfl) ?_ | refine RsL.cons (Rs.eq rfl (by first | (simp; done))) ?_)))); done)
      | (exfalso; omega)
      | fail
  · clear hn
    conv => whnf
    repeat' ((first | (with_reducible refine hid_mk ?_) | (with_reducible refine bcase_df (by omega) ?_) | (with_reducible refine hx _ _ _ rfl ?_) | (with_reducible refine Pure.use (hz) ?_) | (with_reducible refine Pure.use (hA) ?_) | (with_reducible refine Pure.use (hSp) ?_) | (with_reducible refine Pure.use (hSq) ?_) | (with_reducible refine Pure.use (hSr) ?_)) <;> (conv => whnf))
    all_goals exact fin_pure rfl (by simp)
theorem SlpFresh.lp (p q r : SProg) (hp : p.len) (hq : q.len) (hr1 : r.ops.length ≤ 256) (hr2 : r.outs.length ≤ 64) (hz : Pure prog 19 [p.v, q.v] (.tup [r.v, .int .i64 0]))
    {ts : List AV} {h : Heap} (N : List Nat) (nd : N.Nodup) (ho : ObjsR (h ++ List.replicate 0 gho) N [] N (frH p q r))
    (hr : RsL (h ++ List.replicate 0 gho) N [] ts (ovr [(11, .int .i64 (0 : Nat))] (wildAt law09_SlpFresh.D0 frTs))) : VLoop 0 (fun Q ts h => AL.hid (vc Tryd.prog 0 frB Q ts h)) (blkQ 0 (seqQ (fun ts h => AL.hid (vc Tryd.prog 0 frR frQ ts h)) frQ)) ts h := by
  refine vloopN 0 N [] law09_SlpFresh.D0 (fun j : Nat => [(11, .int .i64 j)]) (fun _ => frH p q r) (fun j => j ≤ r.ops.length) (fun j => r.ops.length - j) 0 (by omega) nd (by simp) ho frTs hr ?_
  rintro k hk Q' hn hx
  clear hr ho
  try dsimp only at hk ⊢
  simp only [frH]
  by_cases hkl : k < r.ops.length
  · conv => whnf
    repeat' ((first | (with_reducible refine hid_mk ?_) | (with_reducible refine bcase_dt (by omega) ?_) | (refine wast_gen (m := r.ops.length * 4) (by rfl) (by simp) (by simp <;> omega) (fun ds hds => ?_)) | (with_reducible refine vblk_same ?_) | (with_reducible refine wnum_i64 (by omega) ?_) | (with_reducible refine And.intro (by first | with_reducible assumption | omega) ?_)) <;> (conv => whnf))
    all_goals first
      | ((refine hn (k + 1) (by omega) (by omega) _ _ (.inr (next_fin (fun ts h => [0, 1, 2, 3, 4, 5, 6, 7]) ?_))); (simp only [frH]); (conv => whnf); (refine AL.hid_mk ⟨⟨?_, ?_, ?_, ?_, ?_, ?_, ?_, ?_, trivial⟩, ?_⟩); (all_goals first | exact objR_cells (by simp) rfl (RsL.wilds (by assumption)) | (first | exact objR_same (by simp) rfl rfl (cells_cl _) | (refine objR_cells (by simp) rfl ?_; (first | (refine rsl_lit ?_; (conv => whnf); with_reducible refine hid_mk ?_; (repeat (first | with_reducible exact RsL.nil | with_reducible refine RsL.cons (Rs.int_eq (by first | rfl)) ?_ | with_reducible refine RsL.cons (Rs.slice_eq rfl (by first | rfl) (by first | rfl) (by first | rfl)) ?_)); done) | ((repeat (first | with_reducible exact RsL.wilds (by first | (simp; done)))); done) | fail)) | fail) | ((with_reducible refine rsl_force ?_); (conv => whnf); (with_reducible refine hid_mk ?_); (repeat (first | with_reducible exact RsL.nil | with_reducible refine RsL.cons (Rs.wild _) ?_ | with_reducible refine RsL.cons (Rs.int_eq (by first | rfl | omega)) ?_ | with_reducible refine RsL.cons (Rs.ptr _ _ _ rfl) ?_ | refine RsL.cons (Rs.eq rfl (by first | (simp; done))) ?_)))); done)
      | (exfalso; omega)
      | fail
  · clear hn
    conv => whnf
    repeat' ((first | (with_reducible refine hid_mk ?_) | (with_reducible refine bcase_df (by omega) ?_) | (with_reducible refine hx _ _ _ rfl ?_) | (with_reducible refine vblk_same ?_)) <;> (conv => whnf))
    refine SlpFresh.lp2 p q r hp hq hr1 hr2 hz [0, 1, 2, 3, 4, 5, 6, 7] (by decide) ?_ ?_
    · refine ⟨?_, ?_, ?_, ?_, ?_, ?_, ?_, ?_, trivial⟩
      all_goals first | exact objR_cells (by simp) rfl (RsL.wilds (by simp)) | (first | exact objR_same (by simp) rfl rfl (cells_cl _) | (refine objR_cells (by simp) rfl ?_; (first | (refine rsl_lit ?_; (conv => whnf); with_reducible refine hid_mk ?_; (repeat (first | with_reducible exact RsL.nil | with_reducible refine RsL.cons (Rs.int_eq (by first | rfl)) ?_ | with_reducible refine RsL.cons (Rs.slice_eq rfl (by first | rfl) (by first | rfl) (by first | rfl)) ?_)); done) | fail)) | fail)
    · (with_reducible refine rsl_force ?_); (conv => whnf); (with_reducible refine hid_mk ?_); (repeat (first | with_reducible exact RsL.nil | with_reducible refine RsL.cons (Rs.wild _) ?_ | with_reducible refine RsL.cons (Rs.int_eq (by first | rfl | omega)) ?_ | with_reducible refine RsL.cons (Rs.ptr _ _ _ rfl) ?_ | refine RsL.cons (Rs.eq rfl (by first | (simp; done))) ?_))

end Go.Proofs.YtginchgkbgcimaaDoor.C
