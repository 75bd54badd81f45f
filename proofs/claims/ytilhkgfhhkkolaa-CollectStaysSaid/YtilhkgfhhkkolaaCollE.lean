/- Package collect: First. -/
import Derived.Test.YtilhkgfhhkkolaaCollD
namespace Go.Proofs.Ytilhkgfhhkkolaa.C
open Go Go.RowKit Go.Proofs.Ytilhkgfhhkkolaa.AL
set_option maxRecDepth 100000
set_option maxHeartbeats 40000000
set_option linter.unusedVariables false
set_option linter.unusedSimpArgs false

/-- A packet: From, To, Bytes. -/
structure Pkt where
  a : Int
  b : Int
  bs : List UInt8
  deriving Inhabited
abbrev Pkt.enc (x : Pkt) : List AV := [.int .i64 x.a, .int .i64 x.b, u8s x.bs]
abbrev pkts (l : List Pkt) : AV := .islice false l.length (l.flatMap Pkt.enc)
/-- The reply that a packet holds, if it counts. -/
abbrev Pkt.rep (x : Pkt) : Rep := ⟨mW (unI x.bs), rlL (mL (unI x.bs))⟩
/-- Does it count, if nobody was heard yet? -/
def Pkt.cnt (p : Pl) (outs round : Int) (x : Pkt) : Prop := x.b = 0 ∧ WOk p outs round x.a x.bs
open Classical in
noncomputable def frst1 (p : Pl) (outs round : Int) (R : List Rep) (x : Pkt) : List Rep := if x.cnt p outs round ∧ hasR R x.rep.w = false then R ++ [x.rep] else R
/-- The replies of packets. -/
noncomputable def frst (p : Pl) (outs round : Int) (l : List Pkt) : List Rep := l.foldl (frst1 p outs round) []
theorem frst_nil (p : Pl) (outs round : Int) : frst p outs round [] = [] := rfl
theorem frst_take {p : Pl} {outs round : Int} {l : List Pkt} {k : Nat} (h : k < l.length) : frst p outs round (l.take (k + 1)) = frst1 p outs round (frst p outs round (l.take k)) (gt l k) := by
  rw [take_gt h, frst, List.foldl_append]; rfl
theorem frst1_y {p : Pl} {outs round : Int} {R : List Rep} {x : Pkt} (h1 : x.cnt p outs round) (h2 : hasR R x.rep.w = false) : frst1 p outs round R x = R ++ [x.rep] := if_pos ⟨h1, h2⟩
theorem frst1_n {p : Pl} {outs round : Int} {R : List Rep} {x : Pkt} (h : ¬ x.cnt p outs round) : frst1 p outs round R x = R := if_neg fun q => h q.1
theorem frst1_h {p : Pl} {outs round : Int} {R : List Rep} {x : Pkt} (h : hasR R x.rep.w = true) : frst1 p outs round R x = R := if_neg fun q => by rw [h] at q; exact absurd q.2 (by decide)
theorem frst_len {p : Pl} {outs round : Int} (l : List Pkt) (k : Nat) (h : k ≤ l.length) : (frst p outs round (l.take k)).length ≤ k := by
  induction k with
  | zero => rw [List.take_zero, frst_nil]; exact Nat.le_refl _
  | succ k ih =>
    rw [frst_take (by omega)]
    unfold frst1
    split
    · rw [List.length_append, List.length_singleton]; exact Nat.succ_le_succ (ih (by omega))
    · exact Nat.le_succ_of_le (ih (by omega))

/-! ### who was heard -/
def hrd (R : List Rep) : List Bool := (List.range 64).map fun w : Nat => hasR R w
theorem hrd_length (R : List Rep) : (hrd R).length = 64 := by simp [hrd]
theorem hrd_gt {R : List Rep} {w : Nat} (h : w < 64) : gt (hrd R) w = hasR R w := by
  rw [gt_eq (by rw [hrd_length]; exact h)]; simp [hrd]
theorem hasR_snoc {R : List Rep} {x : Rep} {w : Int} : hasR (R ++ [x]) w = (hasR R w || x.w == w) := by simp [hasR]
theorem hrd_set {R : List Rep} {x : Rep} {w : Nat} (e : x.w = w) (h : w < 64) : hrd (R ++ [x]) = (hrd R).set w true := by
  refine gt_ext (by rw [List.length_set, hrd_length, hrd_length]) fun i hi => ?_
  rw [hrd_length] at hi
  rw [hrd_gt hi, gt_set (by rw [hrd_length]; exact h), hrd_gt hi, hasR_snoc, e]
  by_cases q : i = w
  · subst q; simp
  · rw [if_neg (Ne.symm q)]
    have : ((w : Int) == (i : Int)) = false := by simp; omega
    rw [this, Bool.or_false]
theorem hrd_nil : List.replicate 64 (AV.bool false) = (hrd []).map AV.bool := by rfl

/-- The replies' memory. -/
def ownR (L : List Rep) : List AObj := if L = [] then [] else [.cells (L.flatMap Rep.enc) (some 2)]
theorem ownR_nil : ownR [] = [] := rfl
theorem ownR_ne {L : List Rep} (h : L ≠ []) : ownR L = [.cells (L.flatMap Rep.enc) (some 2)] := if_neg h
theorem ownR_snoc {L : List Rep} {x : Rep} : ownR (L ++ [x]) = [.cells ((L ++ [x]).flatMap Rep.enc) (some 2)] := ownR_ne (by simp)
theorem rep_snoc (L : List Rep) (x : Rep) : L.flatMap Rep.enc ++ [.int .i64 x.w, u64s x.l] = (L ++ [x]).flatMap Rep.enc := by simp [List.flatMap_append]
theorem rs_reps {h : Heap} {N F : List Nat} {i n cap : Nat} {op : Option Nat} {L : List Rep} {cs : List AV} (hi : i ∈ F) (h1 : h[i]? = some (.cells cs op)) (e : cs = L.flatMap Rep.enc) (hn : n = L.length) : Rs h N F (.slice i 0 n cap) (reps L) := by
  subst hn e
  refine Rs.fsliceL (k := 0) (m := (L.flatMap Rep.enc).length) hi (.inl h1) (by simp) ?_
  rw [List.drop_zero, List.take_length]
  refine .same fun x hx => ?_
  obtain ⟨p, _, hp⟩ := List.mem_flatMap.1 hx
  simp at hp
  rcases hp with rfl | rfl <;> simp
theorem rs_reps0 {h : Heap} {N F : List Nat} {L : List Rep} (e : L = []) : Rs h N F (.lit (.slice none 0 0)) (reps L) := by subst e; exact .nil false

set_option maxRecDepth 1000000
theorem collect_First.b (p : Pl) (outs round : Int) (l : List Pkt) (hno : ¬ cMay p outs round) : Pure prog 8 [p.v, .int .i64 outs, .int .i64 round, pkts l] (.tup [.lit (.slice none 0 0), .int .i64 2]) := by
  unfold cMay at hno
  have hM := plan_May.a p
  refine pure_of_vc collect_First.k (List.forall_mem_cons.2 ⟨by simp, List.forall_mem_cons.2 ⟨by simp, List.forall_mem_cons.2 ⟨by simp, List.forall_mem_cons.2 ⟨idLt_fl (by intro a _; simp), by simp⟩⟩⟩⟩) ?_
  conv => whnf
  repeat' ((first | (with_reducible refine hid_mk ?_) | (with_reducible refine bcase_not ?_) | (with_reducible refine bcase_dec (fun hb => ?_) (fun hb => ?_)) | (with_reducible refine bcase_mk (fun hb => ?_) (fun hb => ?_)) | (with_reducible refine fin_inl ?_) | (with_reducible refine acalls_of_vc collect_may.k ?_) | (with_reducible refine Pure.use (hM) ?_) | (with_reducible refine vblk_same ?_)) <;> (conv => whnf))
  all_goals first | exact fin_pure rfl (by simp; done) | exact absurd ⟨by assumption, ⟨by omega, by omega⟩, by omega, by omega⟩ hno

theorem collect_First.s (p : Pl) (outs round : Int) (l : List Pkt) (hl : l.length ≤ 3518437208781) (hbs : ∀ x ∈ l, x.bs.length ≤ 140737488351232) (hc : cMay p outs round) : Pure prog 8 [p.v, .int .i64 outs, .int .i64 round, pkts l] (.tup [reps (frst p outs round l), .int .i64 0]) := by
  have hcm := hc
  obtain ⟨h1, h2, h3⟩ := hc
  have hM := plan_May.a p
  have hpn := (Pl.may_iff.1 h1).2.1
  refine pure_of_vc collect_First.k (List.forall_mem_cons.2 ⟨by simp, List.forall_mem_cons.2 ⟨by simp, List.forall_mem_cons.2 ⟨by simp, List.forall_mem_cons.2 ⟨idLt_fl (by intro a _; simp), by simp⟩⟩⟩⟩) ?_
  conv => whnf
  repeat' ((first | (with_reducible refine hid_mk ?_) | (with_reducible refine bcase_not ?_) | (with_reducible refine bcase_true (by with_reducible assumption) ?_) | (with_reducible refine bcase_dt (by omega) ?_) | (with_reducible refine fin_inl ?_) | (with_reducible refine acalls_of_vc collect_may.k ?_) | (with_reducible refine Pure.use (hM) ?_) | (with_reducible refine vblk_same ?_)) <;> (conv => whnf))
  refine vloopW collect_First.D0 (fun k : Nat => [(11, ownV 3 (frst p outs round (l.take k))), (23, .int .i64 k)]) (fun k => [.cells p.cells none, .cells p.cells none, .cells ((hrd (frst p outs round (l.take k))).map AV.bool) none] ++ ownR (frst p outs round (l.take k))) (fun k => k ≤ l.length) (fun k => l.length - k) 0 (by omega) ?_ ?_ ?_
  · simp only [List.take_zero, frst_nil, ownR_nil, List.append_nil, ← hrd_nil]
  · simp only [List.take_zero, frst_nil, ownV_nil]
    (with_reducible refine wk_force ?_); (conv => whnf); (with_reducible refine hid_mk ?_); (repeat (first | with_reducible refine Wk.wild ?_ | refine Wk.cons (by first | with_reducible rfl | exact congrArg (AV.int _) (by first | rfl) | fail) ?_)); with_reducible exact Wk.nil
  rintro k hk Q' hn hx
  try dsimp only at hk ⊢
  have hRl := frst_len (p := p) (outs := outs) (round := round) l k hk
  have hst := fun h : k < l.length => frst_take (p := p) (outs := outs) (round := round) h
  have hbk := fun h : k < l.length => hbs _ (gt_mem h)
  have hend : l.length ≤ k → frst p outs round (l.take k) = frst p outs round l := fun h => by rw [List.take_of_length_le h]
  have hHl := hrd_length (frst p outs round (l.take k))
  have hHg := fun (w : Nat) (h : w < 64) => hrd_gt (R := frst p outs round (l.take k)) h
  have hHs := fun (x : Rep) (w : Nat) (e : x.w = w) (h : w < 64) => hrd_set (R := frst p outs round (l.take k)) e h
  generalize hRe : frst p outs round (l.take k) = R at hRl hst hHl hHg hHs hend
  generalize hHe : hrd R = H at hHl hHg hHs
  by_cases hw : WOk p outs round (gt l k).a (gt l k).bs
  · have hW := fun h : k < l.length => collect_Well.s p outs round (gt l k).a (gt l k).bs (hbk h) hcm hw
    have hwm : mW (unI (gt l k).bs) < 64 := by have := hw.wn; omega
    have hg := hHg _ hwm
    have hs := hHs (gt l k).rep _ rfl hwm
    have hyes := fun (h : k < l.length) (hto : (gt l k).b = 0) (hh : hasR R (mW (unI (gt l k).bs)) = false) => (hst h).trans (frst1_y ⟨hto, hw⟩ hh)
    have hno1 := fun (h : k < l.length) (hto : (gt l k).b ≠ 0) => (hst h).trans (frst1_n fun q => hto q.1)
    have hno2 := fun (h : k < l.length) (hh : hasR R (mW (unI (gt l k).bs)) = true) => (hst h).trans (frst1_h hh)
    by_cases hh : hasR R (mW (unI (gt l k).bs)) = true
    · rw [hh] at hg
      have hno2 := fun h => hno2 h hh
      by_cases hR0 : R = []
      · subst hR0; exact absurd hh (by simp [hasR])
      · simp only [ownV_ne hR0, ownR_ne hR0, List.cons_append, List.nil_append]
        conv => whnf
        repeat' ((first | (with_reducible refine hid_mk ?_) | (with_reducible refine bcase_true (by with_reducible assumption) ?_) | (with_reducible refine bcase_dec (fun hb => ?_) (fun hb => ?_)) | (with_reducible refine bcase_bne (fun hb => ?_) (fun hb => ?_)) | (with_reducible refine hx _ _ _ rfl ?_) | ((with_reducible refine pure_guard (hW (by omega)) ?_); (refine Pure.use0 (hW (by omega)) (by (first | ((repeat (first | with_reducible exact RsL.nil | with_reducible refine RsL.cons (Rs.int_eq (by first | rfl)) ?_ | refine RsL.cons (Rs.eq rfl (by first | exact idLt_mapI (by intro a; simp) | (simp; done))) ?_)); done) | fail)) ?_)) | (with_reducible refine vblk_same ?_) | (with_reducible refine wnum_i64 (by omega) ?_) | (with_reducible refine wfoc_flatc (by intro _; with_unfolding_all rfl) (by first | omega) ?_) | (with_reducible refine wald_mapc (by first | omega) ?_) | (with_reducible refine And.intro (by first | with_reducible assumption | omega) ?_)) <;> (conv => whnf))
        · ((refine hn (k + 1) (by omega) (by omega) _ _ (.inr (next_fin (fun ts h => [0, 1, 2, 3]) ?_))); (simp only [hno1 (by omega) (by assumption), hHe, ownV_ne hR0, ownR_ne hR0]); (conv => whnf); (refine hid_mk ⟨⟨?_, ?_, ?_, ?_, trivial⟩, ?_⟩); (all_goals first | (first | (refine objR_cells (by simp) rfl ?_; (first | (refine rsl_lit ?_; (conv => whnf); with_reducible refine hid_mk ?_; (repeat (first | with_reducible exact RsL.nil | with_reducible refine RsL.cons (Rs.int_eq (by first | rfl)) ?_)); done) | ((repeat (first | exact rsl_flat (by intro a _; simp) (by first | rfl))); done) | fail)) | exact objR_same (by simp) rfl (by first | rfl | fail) (by first | exact idLt_map.2 (fun _ _ => by simp)) | fail) | ((with_reducible refine rsl_force ?_); (conv => whnf); (with_reducible refine hid_mk ?_); (repeat (first | with_reducible exact RsL.nil | with_reducible refine RsL.cons (Rs.wild _) ?_ | with_reducible refine RsL.cons (Rs.int_eq (by first | rfl | omega)) ?_ | with_reducible refine RsL.cons (Rs.ptr _ _ _ rfl) ?_ | with_reducible refine RsL.cons (Rs.slice_eq rfl (by first | rfl) (by first | rfl) (by first | rfl)) ?_ | refine RsL.cons (Rs.eq rfl (by first | (simp; done) | exact idLt_fl (by intro a _; simp))) ?_)))))
        · ((refine hn (k + 1) (by omega) (by omega) _ _ (.inr (next_fin (fun ts h => [0, 1, 2, 3]) ?_))); (simp only [hno2 (by omega), hHe, ownV_ne hR0, ownR_ne hR0]); (conv => whnf); (refine hid_mk ⟨⟨?_, ?_, ?_, ?_, trivial⟩, ?_⟩); (all_goals first | (first | (refine objR_cells (by simp) rfl ?_; (first | (refine rsl_lit ?_; (conv => whnf); with_reducible refine hid_mk ?_; (repeat (first | with_reducible exact RsL.nil | with_reducible refine RsL.cons (Rs.int_eq (by first | rfl)) ?_)); done) | ((repeat (first | exact rsl_flat (by intro a _; simp) (by first | rfl))); done) | fail)) | exact objR_same (by simp) rfl (by first | rfl | fail) (by first | exact idLt_map.2 (fun _ _ => by simp)) | fail) | ((with_reducible refine rsl_force ?_); (conv => whnf); (with_reducible refine hid_mk ?_); (repeat (first | with_reducible exact RsL.nil | with_reducible refine RsL.cons (Rs.wild _) ?_ | with_reducible refine RsL.cons (Rs.int_eq (by first | rfl | omega)) ?_ | with_reducible refine RsL.cons (Rs.ptr _ _ _ rfl) ?_ | with_reducible refine RsL.cons (Rs.slice_eq rfl (by first | rfl) (by first | rfl) (by first | rfl)) ?_ | refine RsL.cons (Rs.eq rfl (by first | (simp; done) | exact idLt_fl (by intro a _; simp))) ?_)))))
        · exact fin_rs [3] (Rs.tupL (.cons (by rw [← hend (by omega)]; exact rs_reps (by simp) rfl rfl rfl) (.cons (.int_eq rfl) .nil)))
    · have hh : hasR R (mW (unI (gt l k).bs)) = false := by simpa using hh
      rw [hh] at hg
      have hyes := fun h hto => hyes h hto hh
      by_cases hR0 : R = []
      · subst hR0
        simp only [ownV_nil, ownR_nil, List.append_nil]
        conv => whnf
        repeat' ((first | (with_reducible refine hid_mk ?_) | (with_reducible refine bcase_false (by with_reducible assumption) ?_) | (with_reducible refine bcase_dec (fun hb => ?_) (fun hb => ?_)) | (with_reducible refine bcase_bne (fun hb => ?_) (fun hb => ?_)) | (with_reducible refine hx _ _ _ rfl ?_) | ((with_reducible refine pure_guard (hW (by omega)) ?_); (refine Pure.use0 (hW (by omega)) (by (first | ((repeat (first | with_reducible exact RsL.nil | with_reducible refine RsL.cons (Rs.int_eq (by first | rfl)) ?_ | refine RsL.cons (Rs.eq rfl (by first | exact idLt_mapI (by intro a; simp) | (simp; done))) ?_)); done) | fail)) ?_)) | (with_reducible refine vblk_same ?_) | (with_reducible refine wnum_i64 (by omega) ?_) | (with_reducible refine wfoc_flatc (by intro _; with_unfolding_all rfl) (by first | omega) ?_) | (with_reducible refine wald_mapc (by first | omega) ?_) | (with_reducible refine wast_mapc rfl rfl (by first | omega) ?_) | (with_reducible refine wcut_all (by first | (simp; done)) ?_) | (with_reducible refine ask_mk (by first | with_reducible assumption | omega) ?_) | (with_reducible refine And.intro (by first | with_reducible assumption | omega | (simp; done)) ?_)) <;> (conv => whnf))
        · ((refine hn (k + 1) (by omega) (by omega) _ _ (.inr (next_fin (fun ts h => [0, 1, 2]) ?_))); (simp only [hno1 (by omega) (by assumption), hHe, ownV_nil, ownR_nil, List.append_nil]); (conv => whnf); (refine hid_mk ⟨⟨?_, ?_, ?_, trivial⟩, ?_⟩); (all_goals first | (first | (refine objR_cells (by simp) rfl ?_; (first | (refine rsl_lit ?_; (conv => whnf); with_reducible refine hid_mk ?_; (repeat (first | with_reducible exact RsL.nil | with_reducible refine RsL.cons (Rs.int_eq (by first | rfl)) ?_)); done) | fail)) | exact objR_same (by simp) rfl (by first | rfl | fail) (by first | exact idLt_map.2 (fun _ _ => by simp)) | fail) | ((with_reducible refine rsl_force ?_); (conv => whnf); (with_reducible refine hid_mk ?_); (repeat (first | with_reducible exact RsL.nil | with_reducible refine RsL.cons (Rs.wild _) ?_ | with_reducible refine RsL.cons (Rs.int_eq (by first | rfl | omega)) ?_ | with_reducible refine RsL.cons (Rs.ptr _ _ _ rfl) ?_ | refine RsL.cons (Rs.eq rfl (by first | (simp; done) | exact idLt_fl (by intro a _; simp))) ?_)))))
        · ((refine hn (k + 1) (by omega) (by omega) _ _ (.inr (next_fin (fun ts h => [0, 1, 2, tsId ts 11 3]) ?_))); (simp only [hyes (by omega) (by assumption), hs, ownV_snoc, ownR_snoc]); (conv => whnf); (refine hid_mk ⟨⟨?_, ?_, ?_, ?_, trivial⟩, ?_⟩); (all_goals first | (first | (refine objR_cells (by simp) rfl ?_; (first | (refine rsl_lit ?_; (conv => whnf); with_reducible refine hid_mk ?_; (repeat (first | with_reducible exact RsL.nil | with_reducible refine RsL.cons (Rs.int_eq (by first | rfl)) ?_ | exact rsl_flat (by intro a _; simp) (by first | (simp; done)))); done) | fail)) | exact objR_same (by simp) rfl (by first | rfl | fail) (by first | exact idLt_map.2 (fun _ _ => by simp)) | fail) | ((with_reducible refine rsl_force ?_); (conv => whnf); (with_reducible refine hid_mk ?_); (repeat (first | with_reducible exact RsL.nil | with_reducible refine RsL.cons (Rs.wild _) ?_ | with_reducible refine RsL.cons (Rs.int_eq (by first | rfl | omega)) ?_ | with_reducible refine RsL.cons (Rs.ptr _ _ _ rfl) ?_ | with_reducible refine RsL.cons (Rs.slice_eq rfl (by first | rfl) (by first | rfl | (simp; done)) (by first | rfl | (simp; done))) ?_ | refine RsL.cons (Rs.eq rfl (by first | (simp; done) | exact idLt_fl (by intro a _; simp))) ?_)))))
        · exact fin_rs [] (Rs.tupL (.cons (by rw [← hend (by omega)]; exact rs_reps0 rfl) (.cons (.int_eq rfl) .nil)))
      · have hfl : (R.flatMap Rep.enc).length = R.length * 2 := flat_len (s := 2) (by intro _; rfl) R
        simp only [ownV_ne hR0, ownR_ne hR0, List.cons_append, List.nil_append]
        conv => whnf
        repeat' ((first | (with_reducible refine hid_mk ?_) | (with_reducible refine bcase_false (by with_reducible assumption) ?_) | (with_reducible refine bcase_dec (fun hb => ?_) (fun hb => ?_)) | (with_reducible refine bcase_bne (fun hb => ?_) (fun hb => ?_)) | (with_reducible refine hx _ _ _ rfl ?_) | ((with_reducible refine pure_guard (hW (by omega)) ?_); (refine Pure.use0 (hW (by omega)) (by (first | ((repeat (first | with_reducible exact RsL.nil | with_reducible refine RsL.cons (Rs.int_eq (by first | rfl)) ?_ | refine RsL.cons (Rs.eq rfl (by first | exact idLt_mapI (by intro a; simp) | (simp; done))) ?_)); done) | fail)) ?_)) | (with_reducible refine vblk_same ?_) | (with_reducible refine wnum_i64 (by omega) ?_) | (with_reducible refine wfoc_flatc (by intro _; with_unfolding_all rfl) (by first | omega) ?_) | (with_reducible refine wald_mapc (by first | omega) ?_) | (with_reducible refine wcat_flA0 (by intro _; with_unfolding_all rfl) (by first | (simp; done)) ?_) | (with_reducible refine wast_mapc rfl rfl (by first | omega) ?_) | (with_reducible refine wcut_all (by first | with_reducible assumption | (simp; done)) ?_) | (with_reducible refine wroom_grow (by omega) ?_) | (with_reducible refine ask_mk (by first | with_reducible assumption | omega | (refine ⟨by first | omega | (simp; done) | (simp; omega), by first | rfl | (simp [AV.isCell]; done) | (simp; omega)⟩)) ?_) | (with_reducible refine And.intro (by first | with_reducible assumption | omega | (simp; done)) ?_)) <;> (conv => whnf))
        · ((refine hn (k + 1) (by omega) (by omega) _ _ (.inr (next_fin (fun ts h => [0, 1, 2, 3]) ?_))); (simp only [hno1 (by omega) (by assumption), hHe, ownV_ne hR0, ownR_ne hR0]); (conv => whnf); (refine hid_mk ⟨⟨?_, ?_, ?_, ?_, trivial⟩, ?_⟩); (all_goals first | (first | (refine objR_cells (by simp) rfl ?_; (first | (refine rsl_lit ?_; (conv => whnf); with_reducible refine hid_mk ?_; (repeat (first | with_reducible exact RsL.nil | with_reducible refine RsL.cons (Rs.int_eq (by first | rfl)) ?_)); done) | ((repeat (first | exact rsl_flat (by intro a _; simp) (by first | rfl))); done) | fail)) | exact objR_same (by simp) rfl (by first | rfl | fail) (by first | exact idLt_map.2 (fun _ _ => by simp)) | fail) | ((with_reducible refine rsl_force ?_); (conv => whnf); (with_reducible refine hid_mk ?_); (repeat (first | with_reducible exact RsL.nil | with_reducible refine RsL.cons (Rs.wild _) ?_ | with_reducible refine RsL.cons (Rs.int_eq (by first | rfl | omega)) ?_ | with_reducible refine RsL.cons (Rs.ptr _ _ _ rfl) ?_ | with_reducible refine RsL.cons (Rs.slice_eq rfl (by first | rfl) (by first | rfl) (by first | rfl)) ?_ | refine RsL.cons (Rs.eq rfl (by first | (simp; done) | exact idLt_fl (by intro a _; simp))) ?_)))))
        · ((refine hn (k + 1) (by omega) (by omega) _ _ (.inr (next_fin (fun ts h => [0, 1, 2, tsId ts 11 3]) ?_))); (simp only [hyes (by omega) (by assumption), hs, ownV_snoc, ownR_snoc]); (conv => whnf); (refine hid_mk ⟨⟨?_, ?_, ?_, ?_, trivial⟩, ?_⟩); (all_goals first | (first | (refine objR_cells (by simp) rfl ?_; (first | (refine rsl_lit ?_; (conv => whnf); with_reducible refine hid_mk ?_; (repeat (first | with_reducible exact RsL.nil | with_reducible refine RsL.cons (Rs.int_eq (by first | rfl)) ?_)); done) | ((repeat (first | exact rsl_flat (by intro a _; simp) (by first | (simp; done)))); done) | fail)) | exact objR_same (by simp) rfl (by first | rfl | fail) (by first | exact idLt_map.2 (fun _ _ => by simp)) | fail) | ((with_reducible refine rsl_force ?_); (conv => whnf); (with_reducible refine hid_mk ?_); (repeat (first | with_reducible exact RsL.nil | with_reducible refine RsL.cons (Rs.wild _) ?_ | with_reducible refine RsL.cons (Rs.int_eq (by first | rfl | omega)) ?_ | with_reducible refine RsL.cons (Rs.ptr _ _ _ rfl) ?_ | with_reducible refine RsL.cons (Rs.slice_eq rfl (by first | rfl) (by first | rfl) (by first | rfl)) ?_ | refine RsL.cons (Rs.eq rfl (by first | (simp; done) | exact idLt_fl (by intro a _; simp))) ?_)))))
        · exact fin_rs [3] (Rs.tupL (.cons (by rw [← hend (by omega)]; exact rs_reps (by simp) rfl rfl rfl) (.cons (.int_eq rfl) .nil)))
  · have hW := fun h : k < l.length => collect_Well.f p outs round (gt l k).a (gt l k).bs (hbk h) hcm hw
    have hno := fun (h : k < l.length) => (hst h).trans (frst1_n fun q => hw q.2)
    by_cases hR0 : R = []
    · subst hR0
      simp only [ownV_nil, ownR_nil, List.append_nil]
      conv => whnf
      repeat' ((first | (with_reducible refine hid_mk ?_) | (with_reducible refine bcase_dec (fun hb => ?_) (fun hb => ?_)) | (with_reducible refine bcase_bne (fun hb => ?_) (fun hb => ?_)) | (with_reducible refine hx _ _ _ rfl ?_) | ((with_reducible refine pure_guard (hW (by omega)) ?_); (refine Pure.use0 (hW (by omega)) (by (first | ((repeat (first | with_reducible exact RsL.nil | with_reducible refine RsL.cons (Rs.int_eq (by first | rfl)) ?_ | refine RsL.cons (Rs.eq rfl (by first | exact idLt_mapI (by intro a; simp) | (simp; done))) ?_)); done) | fail)) ?_)) | (with_reducible refine vblk_same ?_) | (with_reducible refine wnum_i64 (by omega) ?_) | (with_reducible refine wfoc_flatc (by intro _; with_unfolding_all rfl) (by first | omega) ?_) | (with_reducible refine And.intro (by first | with_reducible assumption | omega) ?_)) <;> (conv => whnf))
      · ((refine hn (k + 1) (by omega) (by omega) _ _ (.inr (next_fin (fun ts h => [0, 1, 2]) ?_))); (simp only [hno (by omega), hHe, ownV_nil, ownR_nil, List.append_nil]); (conv => whnf); (refine hid_mk ⟨⟨?_, ?_, ?_, trivial⟩, ?_⟩); (all_goals first | (first | (refine objR_cells (by simp) rfl ?_; (first | (refine rsl_lit ?_; (conv => whnf); with_reducible refine hid_mk ?_; (repeat (first | with_reducible exact RsL.nil | with_reducible refine RsL.cons (Rs.int_eq (by first | rfl)) ?_)); done) | fail)) | exact objR_same (by simp) rfl (by first | rfl | fail) (by first | exact idLt_map.2 (fun _ _ => by simp)) | fail) | ((with_reducible refine rsl_force ?_); (conv => whnf); (with_reducible refine hid_mk ?_); (repeat (first | with_reducible exact RsL.nil | with_reducible refine RsL.cons (Rs.wild _) ?_ | with_reducible refine RsL.cons (Rs.int_eq (by first | rfl | omega)) ?_ | with_reducible refine RsL.cons (Rs.ptr _ _ _ rfl) ?_ | refine RsL.cons (Rs.eq rfl (by first | (simp; done) | exact idLt_fl (by intro a _; simp))) ?_)))))
      · ((refine hn (k + 1) (by omega) (by omega) _ _ (.inr (next_fin (fun ts h => [0, 1, 2]) ?_))); (simp only [hno (by omega), hHe, ownV_nil, ownR_nil, List.append_nil]); (conv => whnf); (refine hid_mk ⟨⟨?_, ?_, ?_, trivial⟩, ?_⟩); (all_goals first | (first | (refine objR_cells (by simp) rfl ?_; (first | (refine rsl_lit ?_; (conv => whnf); with_reducible refine hid_mk ?_; (repeat (first | with_reducible exact RsL.nil | with_reducible refine RsL.cons (Rs.int_eq (by first | rfl)) ?_)); done) | fail)) | exact objR_same (by simp) rfl (by first | rfl | fail) (by first | exact idLt_map.2 (fun _ _ => by simp)) | fail) | ((with_reducible refine rsl_force ?_); (conv => whnf); (with_reducible refine hid_mk ?_); (repeat (first | with_reducible exact RsL.nil | with_reducible refine RsL.cons (Rs.wild _) ?_ | with_reducible refine RsL.cons (Rs.int_eq (by first | rfl | omega)) ?_ | with_reducible refine RsL.cons (Rs.ptr _ _ _ rfl) ?_ | refine RsL.cons (Rs.eq rfl (by first | (simp; done) | exact idLt_fl (by intro a _; simp))) ?_)))))
      · exact fin_rs [] (Rs.tupL (.cons (by rw [← hend (by omega)]; exact rs_reps0 rfl) (.cons (.int_eq rfl) .nil)))
    · simp only [ownV_ne hR0, ownR_ne hR0, List.cons_append, List.nil_append]
      conv => whnf
      repeat' ((first | (with_reducible refine hid_mk ?_) | (with_reducible refine bcase_dec (fun hb => ?_) (fun hb => ?_)) | (with_reducible refine bcase_bne (fun hb => ?_) (fun hb => ?_)) | (with_reducible refine hx _ _ _ rfl ?_) | ((with_reducible refine pure_guard (hW (by omega)) ?_); (refine Pure.use0 (hW (by omega)) (by (first | ((repeat (first | with_reducible exact RsL.nil | with_reducible refine RsL.cons (Rs.int_eq (by first | rfl)) ?_ | refine RsL.cons (Rs.eq rfl (by first | exact idLt_mapI (by intro a; simp) | (simp; done))) ?_)); done) | fail)) ?_)) | (with_reducible refine vblk_same ?_) | (with_reducible refine wnum_i64 (by omega) ?_) | (with_reducible refine wfoc_flatc (by intro _; with_unfolding_all rfl) (by first | omega) ?_) | (with_reducible refine And.intro (by first | with_reducible assumption | omega) ?_)) <;> (conv => whnf))
      · ((refine hn (k + 1) (by omega) (by omega) _ _ (.inr (next_fin (fun ts h => [0, 1, 2, 3]) ?_))); (simp only [hno (by omega), hHe, ownV_ne hR0, ownR_ne hR0]); (conv => whnf); (refine hid_mk ⟨⟨?_, ?_, ?_, ?_, trivial⟩, ?_⟩); (all_goals first | (first | (refine objR_cells (by simp) rfl ?_; (first | (refine rsl_lit ?_; (conv => whnf); with_reducible refine hid_mk ?_; (repeat (first | with_reducible exact RsL.nil | with_reducible refine RsL.cons (Rs.int_eq (by first | rfl)) ?_)); done) | ((repeat (first | exact rsl_flat (by intro a _; simp) (by first | rfl))); done) | fail)) | exact objR_same (by simp) rfl (by first | rfl | fail) (by first | exact idLt_map.2 (fun _ _ => by simp)) | fail) | ((with_reducible refine rsl_force ?_); (conv => whnf); (with_reducible refine hid_mk ?_); (repeat (first | with_reducible exact RsL.nil | with_reducible refine RsL.cons (Rs.wild _) ?_ | with_reducible refine RsL.cons (Rs.int_eq (by first | rfl | omega)) ?_ | with_reducible refine RsL.cons (Rs.ptr _ _ _ rfl) ?_ | with_reducible refine RsL.cons (Rs.slice_eq rfl (by first | rfl) (by first | rfl) (by first | rfl)) ?_ | refine RsL.cons (Rs.eq rfl (by first | (simp; done) | exact idLt_fl (by intro a _; simp))) ?_)))))
      · ((refine hn (k + 1) (by omega) (by omega) _ _ (.inr (next_fin (fun ts h => [0, 1, 2, 3]) ?_))); (simp only [hno (by omega), hHe, ownV_ne hR0, ownR_ne hR0]); (conv => whnf); (refine hid_mk ⟨⟨?_, ?_, ?_, ?_, trivial⟩, ?_⟩); (all_goals first | (first | (refine objR_cells (by simp) rfl ?_; (first | (refine rsl_lit ?_; (conv => whnf); with_reducible refine hid_mk ?_; (repeat (first | with_reducible exact RsL.nil | with_reducible refine RsL.cons (Rs.int_eq (by first | rfl)) ?_)); done) | ((repeat (first | exact rsl_flat (by intro a _; simp) (by first | rfl))); done) | fail)) | exact objR_same (by simp) rfl (by first | rfl | fail) (by first | exact idLt_map.2 (fun _ _ => by simp)) | fail) | ((with_reducible refine rsl_force ?_); (conv => whnf); (with_reducible refine hid_mk ?_); (repeat (first | with_reducible exact RsL.nil | with_reducible refine RsL.cons (Rs.wild _) ?_ | with_reducible refine RsL.cons (Rs.int_eq (by first | rfl | omega)) ?_ | with_reducible refine RsL.cons (Rs.ptr _ _ _ rfl) ?_ | with_reducible refine RsL.cons (Rs.slice_eq rfl (by first | rfl) (by first | rfl) (by first | rfl)) ?_ | refine RsL.cons (Rs.eq rfl (by first | (simp; done) | exact idLt_fl (by intro a _; simp))) ?_)))))
      · exact fin_rs [3] (Rs.tupL (.cons (by rw [← hend (by omega)]; exact rs_reps (by simp) rfl rfl rfl) (.cons (.int_eq rfl) .nil)))

end Go.Proofs.Ytilhkgfhhkkolaa.C
