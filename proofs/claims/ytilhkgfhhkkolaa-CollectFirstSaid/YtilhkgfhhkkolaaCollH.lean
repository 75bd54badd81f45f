/- The law CollectFirst, walked. -/
import Derived.Test.YtilhkgfhhkkolaaCollG
namespace Go.Proofs.Ytilhkgfhhkkolaa.C
open Go Go.RowKit Go.Proofs.Ytilhkgfhhkkolaa.AL
set_option maxRecDepth 100000
set_option maxHeartbeats 40000000
set_option linter.unusedVariables false
set_option linter.unusedSimpArgs false

theorem ref01_Same.n : Pure prog 7 [.lit (.slice none 0 0), .lit (.slice none 0 0)] (.bool true) := by
  refine pure_of_vc ref01_Same.k (by simp) ?_
  conv => whnf
  repeat' ((first | (with_reducible refine hid_mk ?_) | (with_reducible refine vloop_roll ?_) | (with_reducible refine vblk_same ?_)) <;> (conv => whnf))
  all_goals exact fin_pure rfl (by simp)
theorem law25_same.n : Pure prog 10 [.lit (.slice none 0 0), .lit (.slice none 0 0)] (.bool true) := by
  refine pure_of_vc law25_same.k (by simp) ?_
  conv => whnf
  repeat' ((first | (with_reducible refine hid_mk ?_) | (with_reducible refine vloop_roll ?_) | (with_reducible refine vblk_same ?_)) <;> (conv => whnf))
  all_goals exact fin_pure rfl (by simp)

set_option maxRecDepth 1000000
theorem law25_CollectFirst.a (hA : Pure prog 11 [] (.bool true)) (p : Pl) (outs round c : Int) (l : List Pkt) (hf : p.Fok) (hl : l.length ≤ 3518437208781) (hbs : ∀ x ∈ l, I64 x.a ∧ x.bs.length ≤ 140737488351232) :
    Pure prog 3 [p.v, by3 outs round c, pkts l] (.bool true) := by
  have hargs : ∀ a ∈ [p.v, by3 outs round c, pkts l], IdLt 0 a := List.forall_mem_cons.2 ⟨by simp, List.forall_mem_cons.2 ⟨by simp, List.forall_mem_cons.2 ⟨idLt_fl (by intro a _; simp), by simp⟩⟩⟩
  have hSn := ref01_Same.n
  by_cases hc : cMay p outs round
  · have hX := collect_First.s p outs round l hl (fun x h => (hbs x h).2) hc
    have hY := ref25_First.s p outs round l hf hl hbs hc
    have hRl := frst_len (p := p) (outs := outs) (round := round) l l.length (Nat.le_refl _)
    rw [List.take_length] at hRl
    have hS := law25_same.a (frst p outs round l) (by omega) (fun r hr => by have h1 := (frst_may hr).2.1; have h2 := hc.2.1; omega)
    refine pure_of_vc law25_CollectFirst.k hargs ?_
    conv => whnf
    repeat' ((first | (with_reducible refine hid_mk ?_) | (with_reducible refine vblk_same ?_)) <;> (conv => whnf))
    refine vloopW law25_CollectFirst.D0 (fun k : Nat => [(7, .int .i64 k)]) (fun _ => [.cells p.cells none, .cells [.int .i64 outs, .int .i64 round, .int .i64 c] none]) (fun k => k ≤ l.length) (fun k => l.length - k) 0 (by omega) rfl ?_ ?_
    · (with_reducible refine wk_force ?_); (conv => whnf); (with_reducible refine hid_mk ?_); (repeat (first | with_reducible refine Wk.wild ?_ | refine Wk.cons (by first | with_reducible rfl | exact congrArg (AV.int _) (by first | rfl) | fail) ?_)); with_reducible exact Wk.nil
    rintro k hk Q' hn hx
    try dsimp only at hk ⊢
    have hbk := fun h : k < l.length => hbs _ (gt_mem h)
    have hWa := fun h : k < l.length => collect_Well.a p outs round (gt l k).a (gt l k).bs (hbk h).2
    have hWb := fun h : k < l.length => ref25_Well.a p outs round (gt l k).a (gt l k).bs hf (hbk h).1 (hbk h).2
    by_cases hw : WOk p outs round (gt l k).a (gt l k).bs
    · rw [wellV, if_pos hc, if_pos hw] at hWa hWb
      have hll : (rlL (mL (unI (gt l k).bs))).length ≤ 17592186043904 := by rw [rlL_length]; have h1 := hw.n; have h2 := hc.2.1; omega
      have hSl := ref01_Same.a (rlL (mL (unI (gt l k).bs))) hll
      conv => whnf
      repeat' ((first | (with_reducible refine hid_mk ?_) | (with_reducible refine bcase_nf (by omega) ?_) | (with_reducible refine bcase_dec (fun hb => ?_) (fun hb => ?_)) | (with_reducible refine both_mk rfl ?_) | (with_reducible refine alts_mk ?_ ?_) | (with_reducible refine hx _ _ _ rfl ?_) | ((with_reducible refine pure_guard (hWa (by omega)) ?_); (refine Pure.use0 (hWa (by omega)) (by (first | ((repeat (first | with_reducible exact RsL.nil | with_reducible refine RsL.cons (Rs.int_eq (by first | rfl)) ?_ | refine RsL.cons (Rs.eq rfl (by first | exact idLt_mapI (by intro a; simp) | (simp; done))) ?_)); done) | fail)) ?_)) | ((with_reducible refine pure_guard (hWb (by omega)) ?_); (refine Pure.use0 (hWb (by omega)) (by (first | ((repeat (first | with_reducible exact RsL.nil | with_reducible refine RsL.cons (Rs.int_eq (by first | rfl)) ?_ | refine RsL.cons (Rs.eq rfl (by first | exact idLt_mapI (by intro a; simp) | (simp; done))) ?_)); done) | fail)) ?_)) | ((with_reducible refine pure_guard (hSl) ?_); (refine Pure.use0 (hSl) (by (first | ((repeat (first | with_reducible exact RsL.nil | refine RsL.cons (Rs.eq rfl (by first | exact idLt_mapI (by intro a; simp))) ?_)); done) | fail)) ?_)) | ((with_reducible refine pure_guard (hX) ?_); (refine Pure.use0 (hX) (by (first | ((repeat (first | with_reducible exact RsL.nil | with_reducible refine RsL.cons (Rs.int_eq (by first | rfl)) ?_ | refine RsL.cons (Rs.eq rfl (by first | (simp; done) | exact idLt_fl (by intro a _; simp))) ?_)); done) | fail)) ?_)) | ((with_reducible refine pure_guard (hY) ?_); (refine Pure.use0 (hY) (by (first | ((repeat (first | with_reducible exact RsL.nil | with_reducible refine RsL.cons (Rs.int_eq (by first | rfl)) ?_ | refine RsL.cons (Rs.eq rfl (by first | (simp; done) | exact idLt_fl (by intro a _; simp))) ?_)); done) | fail)) ?_)) | ((with_reducible refine pure_guard (hS) ?_); (refine Pure.use0 (hS) (by (first | ((repeat (first | with_reducible exact RsL.nil | refine RsL.cons (Rs.eq rfl (by first | exact idLt_fl (by intro a _; simp))) ?_)); done) | fail)) ?_)) | ((with_reducible refine pure_guard (hA) ?_); (refine Pure.use0 (hA) (by (first | ((repeat (first | with_reducible exact RsL.nil)); done) | fail)) ?_)) | (with_reducible refine vblk_same ?_) | (with_reducible refine wnum_i64 (by omega) ?_) | (with_reducible refine wfoc_flatc (by intro _; with_unfolding_all rfl) (by first | omega) ?_) | (refine wald_lit rfl ?_) | (with_reducible refine And.intro (by first | with_reducible assumption | omega) ?_)) <;> (conv => whnf))
      all_goals first
        | exact fin_pure rfl (by simp)
        | (((refine hn (k + 1) (by omega) (by omega) _ _ (.inr (next_fin (fun ts h => [0, 1]) ?_))); (simp only [List.map_nil]); (conv => whnf); (refine hid_mk ⟨⟨?_, ?_, trivial⟩, ?_⟩); (all_goals first | (first | (refine objR_cells (by simp) rfl ?_; (first | (refine rsl_lit ?_; (conv => whnf); with_reducible refine hid_mk ?_; (repeat (first | with_reducible exact RsL.nil | with_reducible refine RsL.cons (Rs.int_eq (by first | rfl)) ?_)); done) | fail)) | fail) | ((with_reducible refine rsl_force ?_); (conv => whnf); (with_reducible refine hid_mk ?_); (repeat (first | with_reducible exact RsL.nil | with_reducible refine RsL.cons (Rs.wild _) ?_ | with_reducible refine RsL.cons (Rs.int_eq (by first | rfl | omega)) ?_ | with_reducible refine RsL.cons (Rs.ptr _ _ _ rfl) ?_ | refine RsL.cons (Rs.eq rfl (by first | (simp; done) | exact idLt_fl (by intro a _; simp))) ?_))))); done)
        | fail
    · rw [wellV, if_pos hc, if_neg hw] at hWa hWb
      conv => whnf
      repeat' ((first | (with_reducible refine hid_mk ?_) | (with_reducible refine bcase_dec (fun hb => ?_) (fun hb => ?_)) | (with_reducible refine both_mk rfl ?_) | (with_reducible refine alts_mk ?_ ?_) | (with_reducible refine hx _ _ _ rfl ?_) | ((with_reducible refine pure_guard (hWa (by omega)) ?_); (refine Pure.use0 (hWa (by omega)) (by (first | ((repeat (first | with_reducible exact RsL.nil | with_reducible refine RsL.cons (Rs.int_eq (by first | rfl)) ?_ | refine RsL.cons (Rs.eq rfl (by first | exact idLt_mapI (by intro a; simp) | (simp; done))) ?_)); done) | fail)) ?_)) | ((with_reducible refine pure_guard (hWb (by omega)) ?_); (refine Pure.use0 (hWb (by omega)) (by (first | ((repeat (first | with_reducible exact RsL.nil | with_reducible refine RsL.cons (Rs.int_eq (by first | rfl)) ?_ | refine RsL.cons (Rs.eq rfl (by first | exact idLt_mapI (by intro a; simp) | (simp; done))) ?_)); done) | fail)) ?_)) | ((with_reducible refine pure_guard (hSn) ?_); (refine Pure.use0 (hSn) (by (first | ((repeat (first | with_reducible exact RsL.nil | refine RsL.cons (Rs.eq rfl (by first | (simp; done))) ?_)); done) | fail)) ?_)) | ((with_reducible refine pure_guard (hX) ?_); (refine Pure.use0 (hX) (by (first | ((repeat (first | with_reducible exact RsL.nil | with_reducible refine RsL.cons (Rs.int_eq (by first | rfl)) ?_ | refine RsL.cons (Rs.eq rfl (by first | (simp; done) | exact idLt_fl (by intro a _; simp))) ?_)); done) | fail)) ?_)) | ((with_reducible refine pure_guard (hY) ?_); (refine Pure.use0 (hY) (by (first | ((repeat (first | with_reducible exact RsL.nil | with_reducible refine RsL.cons (Rs.int_eq (by first | rfl)) ?_ | refine RsL.cons (Rs.eq rfl (by first | (simp; done) | exact idLt_fl (by intro a _; simp))) ?_)); done) | fail)) ?_)) | ((with_reducible refine pure_guard (hS) ?_); (refine Pure.use0 (hS) (by (first | ((repeat (first | with_reducible exact RsL.nil | refine RsL.cons (Rs.eq rfl (by first | exact idLt_fl (by intro a _; simp))) ?_)); done) | fail)) ?_)) | ((with_reducible refine pure_guard (hA) ?_); (refine Pure.use0 (hA) (by (first | ((repeat (first | with_reducible exact RsL.nil)); done) | fail)) ?_)) | (with_reducible refine vblk_same ?_) | (with_reducible refine wnum_i64 (by omega) ?_) | (with_reducible refine wfoc_flatc (by intro _; with_unfolding_all rfl) (by first | omega) ?_) | (refine wald_lit rfl ?_) | (with_reducible refine And.intro (by first | with_reducible assumption | omega) ?_)) <;> (conv => whnf))
      all_goals first
        | exact fin_pure rfl (by simp)
        | (((refine hn (k + 1) (by omega) (by omega) _ _ (.inr (next_fin (fun ts h => [0, 1]) ?_))); (simp only [List.map_nil]); (conv => whnf); (refine hid_mk ⟨⟨?_, ?_, trivial⟩, ?_⟩); (all_goals first | (first | (refine objR_cells (by simp) rfl ?_; (first | (refine rsl_lit ?_; (conv => whnf); with_reducible refine hid_mk ?_; (repeat (first | with_reducible exact RsL.nil | with_reducible refine RsL.cons (Rs.int_eq (by first | rfl)) ?_)); done) | fail)) | fail) | ((with_reducible refine rsl_force ?_); (conv => whnf); (with_reducible refine hid_mk ?_); (repeat (first | with_reducible exact RsL.nil | with_reducible refine RsL.cons (Rs.wild _) ?_ | with_reducible refine RsL.cons (Rs.int_eq (by first | rfl | omega)) ?_ | with_reducible refine RsL.cons (Rs.ptr _ _ _ rfl) ?_ | refine RsL.cons (Rs.eq rfl (by first | (simp; done) | exact idLt_fl (by intro a _; simp))) ?_))))); done)
        | fail
  · have hX := collect_First.b p outs round l hc
    have hY := ref25_First.b p outs round l hf hc
    have hS := law25_same.n
    refine pure_of_vc law25_CollectFirst.k hargs ?_
    conv => whnf
    repeat' ((first | (with_reducible refine hid_mk ?_) | (with_reducible refine vblk_same ?_)) <;> (conv => whnf))
    refine vloopW law25_CollectFirst.D0 (fun k : Nat => [(7, .int .i64 k)]) (fun _ => [.cells p.cells none, .cells [.int .i64 outs, .int .i64 round, .int .i64 c] none]) (fun k => k ≤ l.length) (fun k => l.length - k) 0 (by omega) rfl ?_ ?_
    · (with_reducible refine wk_force ?_); (conv => whnf); (with_reducible refine hid_mk ?_); (repeat (first | with_reducible refine Wk.wild ?_ | refine Wk.cons (by first | with_reducible rfl | exact congrArg (AV.int _) (by first | rfl) | fail) ?_)); with_reducible exact Wk.nil
    rintro k hk Q' hn hx
    try dsimp only at hk ⊢
    have hbk := fun h : k < l.length => hbs _ (gt_mem h)
    have hWa := fun h : k < l.length => collect_Well.a p outs round (gt l k).a (gt l k).bs (hbk h).2
    have hWb := fun h : k < l.length => ref25_Well.a p outs round (gt l k).a (gt l k).bs hf (hbk h).1 (hbk h).2
    rw [wellV, if_neg hc] at hWa hWb
    conv => whnf
    repeat' ((first | (with_reducible refine hid_mk ?_) | (with_reducible refine bcase_dec (fun hb => ?_) (fun hb => ?_)) | (with_reducible refine both_mk rfl ?_) | (with_reducible refine alts_mk ?_ ?_) | (with_reducible refine hx _ _ _ rfl ?_) | ((with_reducible refine pure_guard (hWa (by omega)) ?_); (refine Pure.use0 (hWa (by omega)) (by (first | ((repeat (first | with_reducible exact RsL.nil | with_reducible refine RsL.cons (Rs.int_eq (by first | rfl)) ?_ | refine RsL.cons (Rs.eq rfl (by first | exact idLt_mapI (by intro a; simp) | (simp; done))) ?_)); done) | fail)) ?_)) | ((with_reducible refine pure_guard (hWb (by omega)) ?_); (refine Pure.use0 (hWb (by omega)) (by (first | ((repeat (first | with_reducible exact RsL.nil | with_reducible refine RsL.cons (Rs.int_eq (by first | rfl)) ?_ | refine RsL.cons (Rs.eq rfl (by first | exact idLt_mapI (by intro a; simp) | (simp; done))) ?_)); done) | fail)) ?_)) | ((with_reducible refine pure_guard (hSn) ?_); (refine Pure.use0 (hSn) (by (first | ((repeat (first | with_reducible exact RsL.nil | refine RsL.cons (Rs.eq rfl (by first | (simp; done))) ?_)); done) | fail)) ?_)) | ((with_reducible refine pure_guard (hX) ?_); (refine Pure.use0 (hX) (by (first | ((repeat (first | with_reducible exact RsL.nil | with_reducible refine RsL.cons (Rs.int_eq (by first | rfl)) ?_ | refine RsL.cons (Rs.eq rfl (by first | (simp; done) | exact idLt_fl (by intro a _; simp))) ?_)); done) | fail)) ?_)) | ((with_reducible refine pure_guard (hY) ?_); (refine Pure.use0 (hY) (by (first | ((repeat (first | with_reducible exact RsL.nil | with_reducible refine RsL.cons (Rs.int_eq (by first | rfl)) ?_ | refine RsL.cons (Rs.eq rfl (by first | (simp; done) | exact idLt_fl (by intro a _; simp))) ?_)); done) | fail)) ?_)) | ((with_reducible refine pure_guard (hS) ?_); (refine Pure.use0 (hS) (by (first | ((repeat (first | with_reducible exact RsL.nil | refine RsL.cons (Rs.eq rfl (by first | (simp; done))) ?_)); done) | fail)) ?_)) | ((with_reducible refine pure_guard (hA) ?_); (refine Pure.use0 (hA) (by (first | ((repeat (first | with_reducible exact RsL.nil)); done) | fail)) ?_)) | (with_reducible refine vblk_same ?_) | (with_reducible refine wnum_i64 (by omega) ?_) | (with_reducible refine wfoc_flatc (by intro _; with_unfolding_all rfl) (by first | omega) ?_) | (refine wald_lit rfl ?_) | (with_reducible refine And.intro (by first | with_reducible assumption | omega) ?_)) <;> (conv => whnf))
    all_goals first
      | exact fin_pure rfl (by simp)
      | (((refine hn (k + 1) (by omega) (by omega) _ _ (.inr (next_fin (fun ts h => [0, 1]) ?_))); (simp only [List.map_nil]); (conv => whnf); (refine hid_mk ⟨⟨?_, ?_, trivial⟩, ?_⟩); (all_goals first | (first | (refine objR_cells (by simp) rfl ?_; (first | (refine rsl_lit ?_; (conv => whnf); with_reducible refine hid_mk ?_; (repeat (first | with_reducible exact RsL.nil | with_reducible refine RsL.cons (Rs.int_eq (by first | rfl)) ?_)); done) | fail)) | fail) | ((with_reducible refine rsl_force ?_); (conv => whnf); (with_reducible refine hid_mk ?_); (repeat (first | with_reducible exact RsL.nil | with_reducible refine RsL.cons (Rs.wild _) ?_ | with_reducible refine RsL.cons (Rs.int_eq (by first | rfl | omega)) ?_ | with_reducible refine RsL.cons (Rs.ptr _ _ _ rfl) ?_ | refine RsL.cons (Rs.eq rfl (by first | (simp; done) | exact idLt_fl (by intro a _; simp))) ?_))))); done)
      | fail

end Go.Proofs.Ytilhkgfhhkkolaa.C
