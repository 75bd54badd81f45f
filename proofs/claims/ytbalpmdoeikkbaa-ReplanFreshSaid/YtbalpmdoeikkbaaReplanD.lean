/- Contracts of package replan: Chain. -/
import Derived.Test.YtbalpmdoeikkbaaReplanC
namespace Go.Proofs.Ytbalpmdoeikkbaa.C
open Go Go.RowKit Go.Proofs.Ytbalpmdoeikkbaa.AL
set_option maxRecDepth 100000
set_option maxHeartbeats 2000000

/-- Exclusions one behind the other: the state behind some of them. -/
def chainS : Pl × List Int × Int → List (List Int) → Pl × List Int × Int
  | s, [] => s
  | s, t :: ts => if s.2.2 = 0 then chainS (s.1.excl s.2.1 t) ts else s
def Pl.chain0 (p : Pl) : Pl × List Int × Int := (p, p.everybody.1, p.everybody.2)
def Pl.chain (p : Pl) (ts : List (List Int)) : Pl × List Int × Int := if (chainS p.chain0 ts).2.2 = 0 then chainS p.chain0 ts else (Pl.o, [], (chainS p.chain0 ts).2.2)

theorem Pl.excl_len (p : Pl) (al fa : List Int) : (p.excl al fa).2.1.length ≤ al.length := by
  unfold Pl.excl
  have := kept_le (marksOf fa) al
  split
  · split
    · split <;> simp [this]
    · simp
  · simp
theorem Pl.everybody_len (p : Pl) : p.everybody.1.length ≤ 64 := by
  unfold Pl.everybody
  split
  · rename_i h
    have := Pl.may_iff.1 h
    simp [Pl.all]; omega
  · simp

theorem replan_Chain.a (p : Pl) (ts : List (List Int)) (hl : Len ts) (ht : ∀ t ∈ ts, Len t) : Pure prog 17 [p.v, .islice false ts.length (ts.map i64s)] (.tup [(p.chain ts).1.v, i64s (p.chain ts).2.1, .int .i64 (p.chain ts).2.2]) := by
  refine pure_of_vc replan_Chain.k (by simp) ?_
  conv => whnf
  have hE := replan_Everybody.a p
  have hc0 : p.chain0 = (p, p.everybody.1, p.everybody.2) := rfl
  have hel := p.everybody_len
  generalize p.everybody = E at hE hc0 hel
  repeat' ((first
    | (with_reducible refine hid_mk ?_)
    | (with_reducible refine bcase_not ?_)
    | (with_reducible refine bcase_true (by with_reducible assumption) ?_)
    | (with_reducible refine bcase_false (by with_reducible assumption) ?_)
    | (with_reducible refine bcase_dt (by omega) ?_)
    | (with_reducible refine bcase_df (by omega) ?_)
    | (with_reducible refine bcase_et (by omega) ?_)
    | (with_reducible refine bcase_ef (by omega) ?_)
    | (with_reducible refine bcase_nt (by omega) ?_)
    | (with_reducible refine bcase_nf (by omega) ?_)
    | (with_reducible refine bcase_dec (fun hb => ?_) (fun hb => ?_))
    | (with_reducible refine bcase_beq (fun hb => ?_) (fun hb => ?_))
    | (with_reducible refine bcase_bne (fun hb => ?_) (fun hb => ?_))
    | (with_reducible refine bcase_nbeq (fun hb => ?_) (fun hb => ?_))
    | (with_reducible refine bcase_mk (fun hb => ?_) (fun hb => ?_))
    | (with_reducible refine both_mk rfl ?_)
    | (with_reducible refine hx _ _ _ rfl ?_)
    | (with_reducible refine hx2 _ _ _ rfl ?_)
    | (with_reducible refine Pure.use (hE) ?_)
    | (with_reducible refine wnum_i64 (by omega) ?_)
    | (with_reducible refine wnum_u64 (by omega) ?_)
    | (with_reducible refine wnum_u8 (by omega) ?_)
    | (with_reducible refine wrem_nn (by omega) ?_)
    | (with_reducible refine wnum_mk ?_)
    | (with_reducible refine wfoc_mapc (by first | with_reducible assumption | omega | (simp; done) | (simp; omega)) ?_)
    | (with_reducible refine wfoc_map (by first | with_reducible assumption | omega | (simp; done) | (simp; omega)) ?_)
    | (with_reducible refine wfoc_flatc (by intro _; rfl) (by first | with_reducible assumption | omega | (simp; done) | (simp; omega)) ?_)
    | (with_reducible refine wfoc_flat (by intro _; rfl) (by first | with_reducible assumption | omega | (simp; done) | (simp; omega)) ?_)
    | (with_reducible refine wald_mapc (by first | with_reducible assumption | omega | (simp; done) | (simp; omega)) ?_)
    | (with_reducible refine wald_map (by first | with_reducible assumption | omega | (simp; done) | (simp; omega)) ?_)
    | (with_reducible refine wast_mapc rfl rfl (by first | with_reducible assumption | omega | (simp; done) | (simp; omega)) ?_)
    | (with_reducible refine wast_map rfl rfl (by first | with_reducible assumption | omega | (simp; done) | (simp; omega)) ?_)
    | (with_reducible refine wrep_int ?_)
    | (with_reducible refine wrep_bool ?_)
    | (with_reducible refine wrep_mk ?_)
    | (with_reducible refine wzero_lt (by omega) ?_)
    | (with_reducible refine wzero_eq (by omega) ?_)
    | (with_reducible refine wcut_all (by first | with_reducible assumption | omega | (simp; done) | (simp; omega)) ?_)
    | (with_reducible refine wcut_map ?_)
    | (with_reducible refine wcat_map (by first | with_reducible assumption | omega | (simp; done) | (simp; omega)) ?_)
    | (with_reducible refine wroom_grow (by omega) ?_)
    | (with_reducible refine wroom_in (by omega) ?_)
    | (refine wfoc_lit (by decide) rfl ?_)
    | (refine wald_lit rfl ?_)
    | (refine wast_lit rfl ?_)
    | (with_reducible refine wcut_lit ?_)
    | (refine wcat_lit rfl ?_)
    | (with_reducible refine ask_mk (by first | with_reducible assumption | omega | (simp; done) | (simp; omega) | (refine ⟨by first | omega | (simp; done) | (simp; omega), by first | rfl | (simp [AV.isCell]; done) | (simp; omega)⟩)) ?_)
    | (with_reducible refine fin_nle (by first | omega | (simp; done) | (simp; omega)))
    | (with_reducible refine fin_nat (by first | omega | (simp; done) | (simp; omega)))
    | (with_reducible refine And.intro (hid_mk (fun hb => ?_)) (hid_mk ?_))
    | (with_reducible refine And.intro (by first | with_reducible assumption | omega | (simp; done) | (simp; omega)) ?_)
    | (with_reducible refine And.intro (fin_el ?_) ?_)) <;> (conv => whnf))
  refine vloopW replan_Chain.D0 (fun s : Nat × Pl × List Int × Int => [(17, .int .i64 s.1), (5, i64s s.2.2.1), (6, .int .i64 s.2.2.2)]) (fun s => [.cells p.cells none, .cells s.2.1.cells none]) (fun s => s.1 ≤ ts.length ∧ s.2.2.1.length ≤ 64 ∧ chainS p.chain0 ts = chainS s.2 (ts.drop s.1)) (fun s => ts.length - s.1) (0, p, E.1, E.2) ?_ ?_ ?_ ?_
  · exact ⟨by simp, hel, by rw [hc0]; rfl⟩
  · rfl
  · (with_reducible refine wk_force ?_); (conv => whnf); (with_reducible refine hid_mk ?_); (repeat (first | with_reducible refine Wk.wild ?_ | refine Wk.cons (by first | with_reducible rfl | exact congrArg (AV.int _) (by first | rfl | omega | (simp; done) | (simp; omega)) | rfl | (simp; done)) ?_)); with_reducible exact Wk.nil
  rintro ⟨j, q, al, e⟩ ⟨h1, h2, h3⟩ Q' hn hx
  dsimp only at h1 h2 h3 ⊢
  conv => whnf
  have hg : j < ts.length → Len (gt ts j) := fun h => ht _ (gt_mem h)
  have hs : j < ts.length → chainS (q, al, e) (ts.drop j) = if e = 0 then chainS (q.excl al (gt ts j)) (ts.drop (j + 1)) else (q, al, e) := fun h => by rw [drop_gt h, chainS]
  repeat' ((first
    | (with_reducible refine hid_mk ?_)
    | (with_reducible refine bcase_not ?_)
    | (with_reducible refine bcase_true (by with_reducible assumption) ?_)
    | (with_reducible refine bcase_false (by with_reducible assumption) ?_)
    | (with_reducible refine bcase_dt (by omega) ?_)
    | (with_reducible refine bcase_df (by omega) ?_)
    | (with_reducible refine bcase_et (by omega) ?_)
    | (with_reducible refine bcase_ef (by omega) ?_)
    | (with_reducible refine bcase_nt (by omega) ?_)
    | (with_reducible refine bcase_nf (by omega) ?_)
    | (with_reducible refine bcase_dec (fun hb => ?_) (fun hb => ?_))
    | (with_reducible refine bcase_beq (fun hb => ?_) (fun hb => ?_))
    | (with_reducible refine bcase_bne (fun hb => ?_) (fun hb => ?_))
    | (with_reducible refine bcase_nbeq (fun hb => ?_) (fun hb => ?_))
    | (with_reducible refine bcase_mk (fun hb => ?_) (fun hb => ?_))
    | (with_reducible refine both_mk rfl ?_)
    | (with_reducible refine hx _ _ _ rfl ?_)
    | (with_reducible refine hx2 _ _ _ rfl ?_)
    | (with_reducible refine Pure.use (replan_Exclude.a q al (gt ts j) (by simp only [Len]; omega) (hg (by omega))) ?_)
    | (with_reducible refine wnum_i64 (by omega) ?_)
    | (with_reducible refine wnum_u64 (by omega) ?_)
    | (with_reducible refine wnum_u8 (by omega) ?_)
    | (with_reducible refine wrem_nn (by omega) ?_)
    | (with_reducible refine wnum_mk ?_)
    | (with_reducible refine wfoc_mapc (by first | with_reducible assumption | omega | (simp; done) | (simp; omega)) ?_)
    | (with_reducible refine wfoc_map (by first | with_reducible assumption | omega | (simp; done) | (simp; omega)) ?_)
    | (with_reducible refine wfoc_flatc (by intro _; rfl) (by first | with_reducible assumption | omega | (simp; done) | (simp; omega)) ?_)
    | (with_reducible refine wfoc_flat (by intro _; rfl) (by first | with_reducible assumption | omega | (simp; done) | (simp; omega)) ?_)
    | (with_reducible refine wald_mapc (by first | with_reducible assumption | omega | (simp; done) | (simp; omega)) ?_)
    | (with_reducible refine wald_map (by first | with_reducible assumption | omega | (simp; done) | (simp; omega)) ?_)
    | (with_reducible refine wast_mapc rfl rfl (by first | with_reducible assumption | omega | (simp; done) | (simp; omega)) ?_)
    | (with_reducible refine wast_map rfl rfl (by first | with_reducible assumption | omega | (simp; done) | (simp; omega)) ?_)
    | (with_reducible refine wrep_int ?_)
    | (with_reducible refine wrep_bool ?_)
    | (with_reducible refine wrep_mk ?_)
    | (with_reducible refine wzero_lt (by omega) ?_)
    | (with_reducible refine wzero_eq (by omega) ?_)
    | (with_reducible refine wcut_all (by first | with_reducible assumption | omega | (simp; done) | (simp; omega)) ?_)
    | (with_reducible refine wcut_map ?_)
    | (with_reducible refine wcat_map (by first | with_reducible assumption | omega | (simp; done) | (simp; omega)) ?_)
    | (with_reducible refine wroom_grow (by omega) ?_)
    | (with_reducible refine wroom_in (by omega) ?_)
    | (refine wfoc_lit (by decide) rfl ?_)
    | (refine wald_lit rfl ?_)
    | (refine wast_lit rfl ?_)
    | (with_reducible refine wcut_lit ?_)
    | (refine wcat_lit rfl ?_)
    | (with_reducible refine ask_mk (by first | with_reducible assumption | omega | (simp; done) | (simp; omega) | (refine ⟨by first | omega | (simp; done) | (simp; omega), by first | rfl | (simp [AV.isCell]; done) | (simp; omega)⟩)) ?_)
    | (with_reducible refine fin_nle (by first | omega | (simp; done) | (simp; omega)))
    | (with_reducible refine fin_nat (by first | omega | (simp; done) | (simp; omega)))
    | (with_reducible refine And.intro (hid_mk (fun hb => ?_)) (hid_mk ?_))
    | (with_reducible refine And.intro (by first | with_reducible assumption | omega | (simp; done) | (simp; omega)) ?_)
    | (with_reducible refine And.intro (fin_el ?_) ?_)) <;> (conv => whnf))
  · have hcs : p.chain ts = (Pl.o, [], e) := by rw [Pl.chain, h3, hs (by omega), if_neg ‹e ≠ 0›, if_neg ‹e ≠ 0›]
    rw [hcs]
    exact fin_rs [] (Rs.tupL (.cons (.eq rfl (by simp)) (.cons (rs_nil rfl) (.cons (.int_eq rfl) .nil))))
  · have hel := q.excl_len al (gt ts j)
    refine hn (j + 1, q.excl al (gt ts j)) ⟨by dsimp only; omega, by dsimp only; omega, ?_⟩ (by dsimp only; omega) _ _ (.inl ⟨rfl, ?_⟩)
    · rw [h3, hs (by omega), if_pos ‹e = 0›]
    · (with_reducible refine wk_force ?_); (conv => whnf); (with_reducible refine hid_mk ?_); (repeat (first | with_reducible refine Wk.wild ?_ | refine Wk.cons (by first | with_reducible rfl | exact congrArg (AV.int _) (by first | rfl | omega | (simp; done) | (simp; omega)) | rfl | (simp; done)) ?_)); with_reducible exact Wk.nil
  · have hcs : p.chain ts = (Pl.o, [], e) := by rw [Pl.chain, h3, List.drop_of_length_le (by omega), chainS, if_neg ‹e ≠ 0›]
    rw [hcs]
    exact fin_rs [] (Rs.tupL (.cons (.eq rfl (by simp)) (.cons (rs_nil rfl) (.cons (.int_eq rfl) .nil))))
  · have hcs : p.chain ts = (q, al, 0) := by rw [Pl.chain, h3, List.drop_of_length_le (by omega), chainS, if_pos ‹e = 0›, ‹e = 0›]
    rw [hcs]
    exact fin_pure rfl (by simp)

end Go.Proofs.Ytbalpmdoeikkbaa.C
