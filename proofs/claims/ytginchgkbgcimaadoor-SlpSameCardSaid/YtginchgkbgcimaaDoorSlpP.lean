/- Straight-line programs: the document's After: its loops. -/
import Derived.Test.YtginchgkbgcimaaDoorSlpI
namespace Go.Proofs.YtginchgkbgcimaaDoor.C
open Go Go.RowKit Go.Proofs.YtginchgkbgcimaaDoor.AL
set_option maxRecDepth 100000
set_option maxHeartbeats 40000000
set_option linter.unusedVariables false
set_option linter.unusedSimpArgs false

/-- Where a value is found: the values so far. -/
def atl (p q : SProg) (k : Nat) : List Int := q.outs ++ (List.range k).map fun i => q.n + q.ops.length + (i : Nat)
theorem atl_zero (p q : SProg) : atl p q 0 = q.outs := by simp [atl]
theorem atl_succ (p q : SProg) (k : Nat) : atl p q (k + 1) = atl p q k ++ [q.n + q.ops.length + k] := by simp [atl, List.range_succ]
theorem atl_len (p q : SProg) (k : Nat) : (atl p q k).length = q.outs.length + k := by simp [atl]
theorem atl_get {p q : SProg} {k : Nat} {v : Int} (hn0 : (q.outs.length : Int) = p.n) (h0 : 0 ≤ v) (h1 : v < p.n + k) : gt (atl p q k) v.toNat = anewI p q v := by
  unfold atl anewI
  by_cases h : v < p.n
  · rw [if_pos h, gt_eq (by simp; omega), gt_eq (by omega), List.getElem_append_left (by omega)]
  · rw [if_neg h]
    have e : v.toNat = q.outs.length + (v.toNat - q.outs.length) := by omega
    have hlt : v.toNat - q.outs.length < ((List.range k).map fun i => q.n + q.ops.length + (i : Nat)).length := by simp; omega
    rw [gt_eq (by simp; omega), List.getElem_append_right (by omega)]
    simp
    omega
theorem fm_snoc (L : List SOp) (x : SOp) : (L ++ [x]).flatMap SOp.enc = L.flatMap SOp.enc ++ x.enc := by simp
theorem len_snoc {α : Type} (L : List α) (x : α) : (L ++ [x]).length = L.length + 1 := by simp
theorem mi_snoc (L : List Int) (x : Int) : (L ++ [x]).map (AV.int .i64) = L.map (AV.int .i64) ++ [.int .i64 x] := by simp
abbrev raTs : List AV := [.wild, .wild, .ptr 0 0, .ptr 1 0, .ptr 2 0, .int .i64 0, .wild, .ptr 3 0] ++ List.replicate 103 .wild
abbrev raH (p q : SProg) (L : List SOp) (A : List Int) : Heap := [.cells p.cells none, .cells q.cells none, .cells [.int .i64 0, .lit (.slice none 0 0), .lit (.slice none 0 0)] none, .cells [.int .i64 q.n, .slice 4 0 L.length L.length, .lit (.slice none 0 0)] none, .cells (L.flatMap SOp.enc) (some 4), .cells (A.map (.int .i64)) (some 1)]
abbrev raTt (A : List Int) : List AV := [.wild, .wild, .ptr 0 0, .ptr 1 0, .ptr 2 0, .int .i64 0, .slice 5 0 A.length A.length, .ptr 3 0] ++ List.replicate 103 .wild
abbrev raG (p q : SProg) (L : List SOp) (A O : List Int) : Heap := [.cells p.cells none, .cells q.cells none, .cells [.int .i64 0, .lit (.slice none 0 0), .lit (.slice none 0 0)] none, .cells [.int .i64 q.n, .slice 4 0 L.length L.length, .slice 6 0 O.length O.length] none, .cells (L.flatMap SOp.enc) (some 4), .cells (A.map (.int .i64)) (some 1), .cells (O.map (.int .i64)) (some 1)]

def blkL (n : Nat) : ACode → Option ACode
  | .block i b => if i == n then (match b with | .loop c => some c | _ => none) else blkL n b
  | .seq a b => match blkL n a with | some x => some x | none => blkL n b
  | .cond _ a b => match blkL n a with | some x => some x | none => blkL n b
  | .loop b => blkL n b
  | .scope b => blkL n b
  | _ => none
/-- What comes behind a block. -/
def blkR (n : Nat) : ACode → Option ACode
  | .seq a b => if (blkL n a).isSome then (match blkR n a with | some r => some (.seq r b) | none => some b) else blkR n b
  | .scope b => blkR n b
  | _ => none
def raB : ACode := (blkL 0 ref09_After.c).getD .skip
def raR : ACode := (blkR 0 ref09_After.c).getD .skip
def raB2 : ACode := (blkL 2 ref09_After.c).getD .skip
def raR2 : ACode := (blkR 2 ref09_After.c).getD .skip
abbrev raQ (p q : SProg) : Post := retQ [RV.cell 4 (some 3), RV.tmp 5] (Back 0 fun e h' => e = AEnd.ret (AV.tup [(aft p q).v, AV.int IntKind.i64 0]) ∧ h' = [])

set_option maxRecDepth 1000000
/-- The second loop: the results. -/
theorem ref09_After.lp2 (p q : SProg) (hn0 : (q.outs.length : Int) = p.n) (hsum : p.ops.length + q.ops.length ≤ 256) (m1 : 0 ≤ p.n ∧ p.n ≤ 64) (m2 : p.ops.length ≤ 256) (m3 : p.outs.length ≤ 64) (m4 : ∀ (i : Nat), i < p.ops.length → SOp.ok (p.n + ↑i) (gt p.ops i)) (m5 : ∀ (i : Nat), i < p.outs.length → 0 ≤ gt p.outs i ∧ gt p.outs i < p.n + ↑p.ops.length) (r1 : 0 ≤ q.n ∧ q.n ≤ 64) (r2 : q.ops.length ≤ 256) (r3 : q.outs.length ≤ 64) {ts : List AV} {h : Heap} (A : List Int) (hag : ∀ v : Int, 0 ≤ v → v < p.n + p.ops.length → gt A v.toNat = anewI p q v) (hal : A.length = q.outs.length + p.ops.length) (N : List Nat) (nd : N.Nodup) (ho : ObjsR (h ++ List.replicate 1 gho) N [] N (raG p q (aft p q).ops A []))
    (hr : RsL (h ++ List.replicate 1 gho) N [] ts (ovr [(10, .int .i64 (0 : Nat))] (wildAt ref09_After.D1 (raTt A)))) : VLoop 0 (fun Q ts h => hid (vc Tryd.prog 0 raB2 Q ts h)) (blkQ 2 (seqQ (fun ts h => hid (vc Tryd.prog 0 raR2 (raQ p q) ts h)) (raQ p q))) ts h := by
  have hml : (aft p q).ops.length = q.ops.length + p.ops.length := by rw [← mid_end]; exact mid_len (q := q) (Nat.le_refl _)
  have hE : (aft p q).ops = (aft p q).ops := rfl
  refine vloopN 1 N [] ref09_After.D1 (fun j : Nat => [(10, .int .i64 j)]) (fun j => raG p q (aft p q).ops A ((p.outs.take j).map (anewI p q))) (fun j => j ≤ p.outs.length) (fun j => p.outs.length - j) 0 (by omega) nd (by simp) (by simpa only [List.take_zero, List.map_nil] using ho) (raTt A) hr ?_
  rintro j hj Q2 hn hx
  clear hr ho
  try dsimp only at hj ⊢
  have ho5 := fun h : j < p.outs.length => m5 j h
  have hsn := fun h : j < p.outs.length => (show (p.outs.take (j + 1)).map (anewI p q) = (p.outs.take j).map (anewI p q) ++ [anewI p q (gt p.outs j)] by rw [take_gt h, List.map_append]; rfl)
  have hol : ((p.outs.take j).map (anewI p q)).length = j := by rw [List.length_map, List.length_take]; omega
  have hoe := fun h : p.outs.length ≤ j => (show (p.outs.take j).map (anewI p q) = (aft p q).outs by rw [List.take_of_length_le h]; rfl)
  simp only [raG]
  generalize hL : (aft p q).ops = L at hml hn hE
  have hLl : (L.flatMap SOp.enc).length = L.length * 4 := flat_len (s := 4) (by intro _; rfl) L
  generalize hO : (p.outs.take j).map (anewI p q) = O at hsn hol hoe
  by_cases hjl : j < p.outs.length
  · have ho5 := ho5 hjl
    have ha := hag (gt p.outs j) (by omega) (by omega)
    conv => whnf
    repeat' ((first | (with_reducible refine hid_mk ?_) | (with_reducible refine bcase_dt (by omega) ?_) | (with_reducible refine both_mk rfl ?_) | (with_reducible refine vblk_same ?_) | (with_reducible refine wnum_i64 (by omega) ?_) | (with_reducible refine wfoc_mapc (by first | with_reducible assumption) ?_) | (with_reducible refine wald_map (by first | with_reducible assumption | omega) ?_) | (with_reducible refine wcut_all (by first | with_reducible assumption | (simp; done)) ?_) | (with_reducible refine wcat_map (by first | with_reducible assumption | omega) ?_) | (with_reducible refine wroom_grow (by omega) ?_) | (with_reducible refine ask_mk (by first | with_reducible assumption | omega | (refine ⟨by first | omega | (simp; done) | (simp; omega), by first | rfl | (simp [AV.isCell]; done) | (simp; omega)⟩)) ?_) | (with_reducible refine And.intro (by first | with_reducible assumption | omega | (simp; done)) ?_)) <;> (conv => whnf))
    all_goals first
      | (simp only [ha]; ((refine hn (j + 1) (by omega) (by omega) _ _ (.inr (next_fin (fun ts h => [0, 1, 2, 3, 4, 5, slId h 3 2 6]) ?_))); (simp only [raG, hsn (by omega), fm_snoc, len_snoc]); (conv => whnf); (refine hid_mk ⟨⟨?_, ?_, ?_, ?_, ?_, ?_, ?_, trivial⟩, ?_⟩); (all_goals first | (first | exact objR_same (by simp) rfl rfl (cells_cl _) | (refine objR_cells (by simp) rfl ?_; (first | (refine rsl_lit ?_; (conv => whnf); with_reducible refine hid_mk ?_; (repeat (first | with_reducible exact RsL.nil | with_reducible refine RsL.cons (Rs.int_eq (by first | rfl)) ?_ | with_reducible refine RsL.cons (Rs.slice_eq rfl (by first | rfl) (by first | rfl) (by first | rfl)) ?_ | refine RsL.cons (Rs.eq rfl (by first | (simp; done))) ?_)); done) | ((repeat (first | exact rsl_flat (by intro a _; simp) (by first | rfl))); done) | fail)) | exact objR_same (by simp) rfl (by first | rfl | fail) (by first | (simp; done) | exact idLt_map.2 (fun _ _ => by simp)) | fail) | ((with_reducible refine rsl_force ?_); (conv => whnf); (with_reducible refine hid_mk ?_); (repeat (first | with_reducible exact RsL.nil | with_reducible refine RsL.cons (Rs.wild _) ?_ | with_reducible refine RsL.cons (Rs.int_eq (by first | rfl | omega)) ?_ | with_reducible refine RsL.cons (Rs.ptr _ _ _ rfl) ?_ | with_reducible refine RsL.cons (Rs.slice_eq rfl (by first | rfl) (by first | rfl) (by first | rfl)) ?_))))); done)
      | (exfalso; omega)
      | fail
  · conv => whnf
    repeat' ((first | (with_reducible refine hid_mk ?_) | (with_reducible refine bcase_df (by omega) ?_) | (with_reducible refine hx _ _ _ rfl ?_)) <;> (conv => whnf))
    all_goals exact fin_rs [4, 6] (Rs.tupL (.cons (Rs.aggL (.cons (.int_eq rfl) (.cons (rs_ops hL.symm (by simp) rfl rfl) (.cons (rs_ownO (hoe (by omega)) (by simp) rfl) .nil)))) (.cons (.int_eq rfl) .nil)))

theorem ref09_After.rc (p q : SProg) (hn0 : (q.outs.length : Int) = p.n) (hsum : p.ops.length + q.ops.length ≤ 256) (m1 : 0 ≤ p.n ∧ p.n ≤ 64) (m2 : p.ops.length ≤ 256) (m3 : p.outs.length ≤ 64) (m4 : ∀ (i : Nat), i < p.ops.length → SOp.ok (p.n + ↑i) (gt p.ops i)) (m5 : ∀ (i : Nat), i < p.outs.length → 0 ≤ gt p.outs i ∧ gt p.outs i < p.n + ↑p.ops.length) (r1 : 0 ≤ q.n ∧ q.n ≤ 64) (r2 : q.ops.length ≤ 256) (r3 : q.outs.length ≤ 64) (k : Nat) (hk : k ≤ p.ops.length) (L : List SOp) (A : List Int) (Q' : Post) (hml : L.length = q.ops.length + k) (hal : A.length = q.outs.length + k) (hag : ∀ v : Int, 0 ≤ v → v < p.n + k → gt A v.toNat = anewI p q v) (hkl : k < p.ops.length)
    (hms : mid p q (k + 1) = L ++ [anewO p q (gt p.ops k)]) (has : atl p q (k + 1) = A ++ [q.n + (L.length : Int)])
    (h4 : (gt p.ops k).k = 4)
    (hn : AL.Next 0 (fun a => ovr [(6, AV.slice 5 0 (atl p q a).length (atl p q a).length), (8, AV.int IntKind.i64 ↑a)] (wildAt ref09_After.D0 raTs))
      (fun k => raH p q (mid p q k) (atl p q k)) (fun k => k ≤ p.ops.length) Q' fun a' => p.ops.length - a' < p.ops.length - k) :
    hid (vc Tryd.prog 0 raB Q' (ovr [(6, AV.slice 5 0 A.length A.length), (8, AV.int IntKind.i64 ↑k)] (wildAt ref09_After.D0 raTs)) (raH p q L A)) := by
  have ho4 := m4 k hkl
  unfold SOp.ok at ho4
  have hLl : (L.flatMap SOp.enc).length = L.length * 4 := flat_len (s := 4) (by intro _; rfl) L
  clear hag
  conv => whnf
  repeat' ((first | (with_reducible refine hid_mk ?_) | (with_reducible refine bcase_dt (by omega) ?_) | (with_reducible refine bcase_nf (by omega) ?_) | (with_reducible refine vblk_same ?_) | (with_reducible refine wnum_i64 (by omega) ?_) | (with_reducible refine wfoc_flatc (by intro _; with_unfolding_all rfl) (by first | with_reducible assumption) ?_) | (with_reducible refine wcat_flA0 (by intro _; with_unfolding_all rfl) (by first | (simp; done)) ?_) | (with_reducible refine wcut_all (by first | with_reducible assumption | (simp; done)) ?_) | (with_reducible refine wcat_map (by first | with_reducible assumption | omega) ?_) | (with_reducible refine wroom_grow (by omega) ?_) | (with_reducible refine ask_mk (by first | with_reducible assumption | omega | (refine ⟨by first | omega | (simp; done) | (simp; omega), by first | rfl | (simp [AV.isCell]; done) | (simp; omega)⟩)) ?_) | (with_reducible refine And.intro (by first | with_reducible assumption | omega | (simp; done)) ?_)) <;> (conv => whnf))
  all_goals first
    | (((refine hn (k + 1) (by omega) (by omega) _ _ (.inr (next_fin (fun ts h => [0, 1, 2, 3, slId h 3 1 4, tsId ts 6 5]) ?_))); (simp only [raH, hms.trans (congrArg (fun z => L ++ [z]) (anewO_c h4)), has, fm_snoc, len_snoc]); (conv => whnf); (refine hid_mk ⟨⟨?_, ?_, ?_, ?_, ?_, ?_, trivial⟩, ?_⟩); (all_goals first | (first | exact objR_same (by simp) rfl rfl (cells_cl _) | (refine objR_cells (by simp) rfl ?_; (first | (refine rsl_lit ?_; (conv => whnf); with_reducible refine hid_mk ?_; (repeat (first | with_reducible exact RsL.nil | with_reducible refine RsL.cons (Rs.int_eq (by first | rfl)) ?_ | with_reducible refine RsL.cons (Rs.slice_eq rfl (by first | rfl) (by first | rfl) (by first | rfl)) ?_ | refine RsL.cons (Rs.eq rfl (by first | (simp; done))) ?_)); done) | ((repeat (first | with_reducible exact RsL.nil | with_reducible refine RsL.cons (Rs.int_eq (by first | rfl | omega)) ?_ | with_reducible refine RsL.append ?_ ?_ | exact rsl_flat (by intro a _; simp) (by first | rfl))); done) | fail)) | exact objR_same (by simp) rfl (by first | rfl | fail) (by first | exact idLt_map.2 (fun _ _ => by simp)) | fail) | ((with_reducible refine rsl_force ?_); (conv => whnf); (with_reducible refine hid_mk ?_); (repeat (first | with_reducible exact RsL.nil | with_reducible refine RsL.cons (Rs.wild _) ?_ | with_reducible refine RsL.cons (Rs.int_eq (by first | rfl | omega)) ?_ | with_reducible refine RsL.cons (Rs.ptr _ _ _ rfl) ?_ | with_reducible refine RsL.cons (Rs.slice_eq rfl (by first | rfl) (by first | rfl) (by first | rfl)) ?_))))); done)
    | (exfalso; omega)
    | fail

theorem ref09_After.rn (p q : SProg) (hn0 : (q.outs.length : Int) = p.n) (hsum : p.ops.length + q.ops.length ≤ 256) (m1 : 0 ≤ p.n ∧ p.n ≤ 64) (m2 : p.ops.length ≤ 256) (m3 : p.outs.length ≤ 64) (m4 : ∀ (i : Nat), i < p.ops.length → SOp.ok (p.n + ↑i) (gt p.ops i)) (m5 : ∀ (i : Nat), i < p.outs.length → 0 ≤ gt p.outs i ∧ gt p.outs i < p.n + ↑p.ops.length) (r1 : 0 ≤ q.n ∧ q.n ≤ 64) (r2 : q.ops.length ≤ 256) (r3 : q.outs.length ≤ 64) (k : Nat) (hk : k ≤ p.ops.length) (L : List SOp) (A : List Int) (Q' : Post) (hml : L.length = q.ops.length + k) (hal : A.length = q.outs.length + k) (hag : ∀ v : Int, 0 ≤ v → v < p.n + k → gt A v.toNat = anewI p q v) (hkl : k < p.ops.length)
    (hms : mid p q (k + 1) = L ++ [anewO p q (gt p.ops k)]) (has : atl p q (k + 1) = A ++ [q.n + (L.length : Int)])
    (h4 : ¬ (gt p.ops k).k = 4)
    (hn : AL.Next 0 (fun a => ovr [(6, AV.slice 5 0 (atl p q a).length (atl p q a).length), (8, AV.int IntKind.i64 ↑a)] (wildAt ref09_After.D0 raTs))
      (fun k => raH p q (mid p q k) (atl p q k)) (fun k => k ≤ p.ops.length) Q' fun a' => p.ops.length - a' < p.ops.length - k) :
    hid (vc Tryd.prog 0 raB Q' (ovr [(6, AV.slice 5 0 A.length A.length), (8, AV.int IntKind.i64 ↑k)] (wildAt ref09_After.D0 raTs)) (raH p q L A)) := by
  have ho4 := m4 k hkl
  unfold SOp.ok at ho4
  have hLl : (L.flatMap SOp.enc).length = L.length * 4 := flat_len (s := 4) (by intro _; rfl) L
  have ha := hag (gt p.ops k).a (by omega) (by omega)
  have hbb := hag (gt p.ops k).b (by omega) (by omega)
  clear hag
  conv => whnf
  repeat' ((first | (with_reducible refine hid_mk ?_) | (with_reducible refine bcase_dt (by omega) ?_) | (with_reducible refine bcase_nt (by omega) ?_) | (with_reducible refine both_mk rfl ?_) | (with_reducible refine vblk_same ?_) | (with_reducible refine wnum_i64 (by omega) ?_) | (with_reducible refine wfoc_flatc (by intro _; with_unfolding_all rfl) (by first | with_reducible assumption) ?_) | (with_reducible refine wald_map (by first | with_reducible assumption | omega) ?_) | (with_reducible refine wcat_flA0 (by intro _; with_unfolding_all rfl) (by first | (simp; done)) ?_) | (with_reducible refine wcut_all (by first | with_reducible assumption | (simp; done)) ?_) | (with_reducible refine wcat_map (by first | with_reducible assumption | omega) ?_) | (with_reducible refine wroom_grow (by omega) ?_) | (with_reducible refine ask_mk (by first | with_reducible assumption | omega | (refine ⟨by first | omega | (simp; done) | (simp; omega), by first | rfl | (simp [AV.isCell]; done) | (simp; omega)⟩)) ?_) | (with_reducible refine And.intro (by first | with_reducible assumption | omega | (simp; done)) ?_)) <;> (conv => whnf))
  all_goals first
    | (((refine hn (k + 1) (by omega) (by omega) _ _ (.inr (next_fin (fun ts h => [0, 1, 2, 3, slId h 3 1 4, tsId ts 6 5]) ?_))); (simp only [raH, hms.trans (congrArg (fun z => L ++ [z]) (anewO_n h4 ha.symm hbb.symm)), has, fm_snoc, len_snoc]); (conv => whnf); (refine hid_mk ⟨⟨?_, ?_, ?_, ?_, ?_, ?_, trivial⟩, ?_⟩); (all_goals first | (first | exact objR_same (by simp) rfl rfl (cells_cl _) | (refine objR_cells (by simp) rfl ?_; (first | (refine rsl_lit ?_; (conv => whnf); with_reducible refine hid_mk ?_; (repeat (first | with_reducible exact RsL.nil | with_reducible refine RsL.cons (Rs.int_eq (by first | rfl)) ?_ | with_reducible refine RsL.cons (Rs.slice_eq rfl (by first | rfl) (by first | rfl) (by first | rfl)) ?_ | refine RsL.cons (Rs.eq rfl (by first | (simp; done))) ?_)); done) | ((repeat (first | with_reducible exact RsL.nil | with_reducible refine RsL.cons (Rs.int_eq (by first | rfl)) ?_ | with_reducible refine RsL.append ?_ ?_ | exact rsl_flat (by intro a _; simp) (by first | rfl))); done) | fail)) | exact objR_same (by simp) rfl (by first | rfl | fail) (by first | exact idLt_map.2 (fun _ _ => by simp)) | fail) | ((with_reducible refine rsl_force ?_); (conv => whnf); (with_reducible refine hid_mk ?_); (repeat (first | with_reducible exact RsL.nil | with_reducible refine RsL.cons (Rs.wild _) ?_ | with_reducible refine RsL.cons (Rs.int_eq (by first | rfl | omega)) ?_ | with_reducible refine RsL.cons (Rs.ptr _ _ _ rfl) ?_ | with_reducible refine RsL.cons (Rs.slice_eq rfl (by first | rfl) (by first | rfl) (by first | rfl)) ?_))))); done)
    | (exfalso; omega)
    | fail

/-- The first loop: the operations. -/
theorem ref09_After.lp (p q : SProg) (hn0 : (q.outs.length : Int) = p.n) (hsum : p.ops.length + q.ops.length ≤ 256) (m1 : 0 ≤ p.n ∧ p.n ≤ 64) (m2 : p.ops.length ≤ 256) (m3 : p.outs.length ≤ 64) (m4 : ∀ (i : Nat), i < p.ops.length → SOp.ok (p.n + ↑i) (gt p.ops i)) (m5 : ∀ (i : Nat), i < p.outs.length → 0 ≤ gt p.outs i ∧ gt p.outs i < p.n + ↑p.ops.length) (r1 : 0 ≤ q.n ∧ q.n ≤ 64) (r2 : q.ops.length ≤ 256) (r3 : q.outs.length ≤ 64) {ts : List AV} {h : Heap} (N : List Nat) (nd : N.Nodup) (ho : ObjsR (h ++ List.replicate 0 gho) N [] N (raH p q (mid p q 0) (atl p q 0)))
    (hr : RsL (h ++ List.replicate 0 gho) N [] ts (ovr [(6, AV.slice 5 0 (atl p q 0).length (atl p q 0).length), (8, AV.int IntKind.i64 (0 : Nat))] (wildAt ref09_After.D0 raTs))) : VLoop 0 (fun Q ts h => hid (vc Tryd.prog 0 raB Q ts h)) (blkQ 0 (seqQ (fun ts h => hid (vc Tryd.prog 0 raR (raQ p q) ts h)) (raQ p q))) ts h := by
  refine vloopN 0 N [] ref09_After.D0 (fun k : Nat => [(6, .slice 5 0 (atl p q k).length (atl p q k).length), (8, .int .i64 k)]) (fun k => raH p q (mid p q k) (atl p q k)) (fun k => k ≤ p.ops.length) (fun k => p.ops.length - k) 0 (by omega) nd (by simp) ho raTs hr ?_
  rintro k hk Q' hn hx
  clear hr ho
  try dsimp only at hk ⊢
  have hml := mid_len (q := q) hk
  have hal := atl_len p q k
  have hag := fun (v : Int) (h0 : 0 ≤ v) (h1 : v < p.n + k) => atl_get (q := q) (k := k) hn0 h0 h1
  have hms := fun h : k < p.ops.length => mid_succ (q := q) h
  have has : atl p q (k + 1) = atl p q k ++ [q.n + ((mid p q k).length : Int)] := by rw [atl_succ, hml]; simp [Int.add_assoc]
  have hE := fun h : k = p.ops.length => (show mid p q k = (aft p q).ops by rw [h, mid_end])
  rw [frK_eq]
  generalize mid p q k = L at hml hms hE has
  generalize atl p q k = A at hal hag has
  by_cases hkl : k < p.ops.length
  · by_cases h4 : (gt p.ops k).k = 4
    · exact ref09_After.rc p q hn0 hsum m1 m2 m3 m4 m5 r1 r2 r3 k hk L A Q' hml hal hag hkl (hms hkl) has h4 hn
    · exact ref09_After.rn p q hn0 hsum m1 m2 m3 m4 m5 r1 r2 r3 k hk L A Q' hml hal hag hkl (hms hkl) has h4 hn
  · have hkk : k = p.ops.length := by omega
    have hE' := hE hkk
    clear hE
    subst hkk
    subst hE'
    clear hn hms has
    conv => whnf
    repeat' ((first | (with_reducible refine hid_mk ?_) | (with_reducible refine bcase_df (by omega) ?_) | (with_reducible refine hx _ _ _ rfl ?_) | (with_reducible refine vblk_same ?_)) <;> (conv => whnf))
    refine ref09_After.lp2 p q hn0 hsum m1 m2 m3 m4 m5 r1 r2 r3 A hag hal [0, 1, 2, 3, 4, 5, 6] (by decide) ?_ ?_
    · refine ⟨?_, ?_, ?_, ?_, ?_, ?_, ?_, trivial⟩
      all_goals (first | exact objR_vac rfl | exact objR_same (by simp) rfl rfl (cells_cl _) | (refine objR_cells (by simp) rfl ?_; (first | (refine rsl_lit ?_; (conv => whnf); with_reducible refine hid_mk ?_; (repeat (first | with_reducible exact RsL.nil | with_reducible refine RsL.cons (Rs.int_eq (by first | rfl)) ?_ | with_reducible refine RsL.cons (Rs.slice_eq rfl (by first | rfl) (by first | rfl) (by first | rfl)) ?_ | refine RsL.cons (Rs.nilS _ _ rfl (by simp)) ?_ | refine RsL.cons (Rs.eq rfl (by first | (simp; done))) ?_)); done) | ((repeat (first | exact rsl_flat (by intro a _; simp) (by first | rfl))); done) | fail)) | exact objR_same (by simp) rfl (by first | rfl | fail) (by first | (simp; done)) | fail)
    · (with_reducible refine rsl_force ?_); (conv => whnf); (with_reducible refine hid_mk ?_); (repeat (first | with_reducible exact RsL.nil | with_reducible refine RsL.cons (Rs.wild _) ?_ | with_reducible refine RsL.cons (Rs.int_eq (by first | rfl | omega)) ?_ | with_reducible refine RsL.cons (Rs.ptr _ _ _ rfl) ?_ | with_reducible refine RsL.cons (Rs.slice_eq rfl (by first | rfl) (by first | rfl) (by first | rfl)) ?_))

end Go.Proofs.YtginchgkbgcimaaDoor.C

namespace Go.Proofs.YtginchgkbgcimaaDoor.C
open Go Go.RowKit Go.Proofs.YtginchgkbgcimaaDoor.AL
set_option maxRecDepth 100000
set_option maxHeartbeats 40000000
set_option linter.unusedVariables false
set_option linter.unusedSimpArgs false

set_option maxRecDepth 1000000
theorem ref09_After.nn (p q : SProg) (hp : SMay p) (hq : SMay q) (hn0 : (q.outs.length : Int) = p.n) (hsum : p.ops.length + q.ops.length ≤ 256) (ho : q.ops ≠ []) (hu : q.outs ≠ []) : Pure prog 19 [p.v, q.v] (.tup [(aft p q).v, .int .i64 0]) := by
  have h1 := ref09_May.t p hp
  have h2 := ref09_May.t q hq
  obtain ⟨m1, m2, m3, m4, m5⟩ := hp
  obtain ⟨r1, r2, r3, r4, r5⟩ := hq
  refine pure_of_vc ref09_After.k (List.forall_mem_cons.2 ⟨sprog_cl p, List.forall_mem_cons.2 ⟨sprog_cl q, by simp⟩⟩) ?_
  have hfl : (q.ops.flatMap SOp.enc).length = q.ops.length * 4 := flat_len (s := 4) (by intro _; rfl) q.ops
  have hol : 0 < q.ops.length := List.length_pos_iff.2 ho
  have hul : 0 < q.outs.length := List.length_pos_iff.2 hu
  have hmz : mid p q 0 = q.ops := mid_zero p q
  have haz : atl p q 0 = q.outs := atl_zero p q
  conv => whnf
  repeat' ((first | (with_reducible refine hid_mk ?_) | (with_reducible refine bcase_df (by omega) ?_) | (with_reducible refine bcase_nf (by omega) ?_) | (with_reducible refine bcase_nbF (by omega) ?_) | (with_reducible refine both_mk rfl ?_) | (with_reducible refine alts_mk ?_ ?_) | (with_reducible refine Pure.use (h1) ?_) | (with_reducible refine Pure.use (h2) ?_) | (with_reducible refine vblk_same ?_) | (with_reducible refine wnum_i64 (by omega) ?_) | (with_reducible refine wcat_zero (by omega) ?_) | (with_reducible refine wroom_grow (by omega) ?_) | (with_reducible refine ask_mk (by first | with_reducible assumption | omega | (refine ⟨by first | omega | (simp; done) | (simp; omega), by first | rfl | (simp [AV.isCell]; done) | (simp; omega)⟩)) ?_) | (with_reducible refine And.intro (by first | with_reducible assumption | (simp; done)) ?_)) <;> (conv => whnf))
  case refine_1.refine_1 =>
    clear h1 h2
    refine ref09_After.lp p q hn0 hsum m1 m2 m3 m4 m5 r1 r2 r3 [0, 1, 2, 7, 6, 4] (by decide) ?_ ?_
    · simp only [raH, hmz, haz, List.flatMap_nil, List.length_nil, List.map_nil]
      refine ⟨?_, ?_, ?_, ?_, ?_, ?_, trivial⟩
      all_goals (first | exact objR_same (by simp) rfl rfl (cells_cl _) | (refine objR_cells (by simp) rfl ?_; (first | (refine rsl_lit ?_; (conv => whnf); with_reducible refine hid_mk ?_; (repeat (first | with_reducible exact RsL.nil | with_reducible refine RsL.cons (Rs.int_eq (by first | rfl)) ?_ | with_reducible refine RsL.cons (Rs.slice_eq rfl (by first | rfl) (by first | rfl | omega) (by first | rfl | omega)) ?_ | refine RsL.cons (Rs.eq rfl (by first | (simp; done))) ?_)); done) | ((repeat (first | exact rsl_flat (by intro a _; simp) (by first | rfl))); done) | fail)) | exact objR_same (by simp) rfl (by first | rfl | fail) (by first | (simp; done)) | fail)
    · simp only [hmz, haz, List.flatMap_nil, List.length_nil, List.map_nil]
      (with_reducible refine rsl_force ?_); (conv => whnf); (with_reducible refine hid_mk ?_); (repeat (first | with_reducible exact RsL.nil | with_reducible refine RsL.cons (Rs.wild _) ?_ | with_reducible refine RsL.cons (Rs.int_eq (by first | rfl | omega)) ?_ | with_reducible refine RsL.cons (Rs.ptr _ _ _ rfl) ?_ | with_reducible refine RsL.cons (Rs.slice_eq rfl (by first | rfl) (by first | omega) (by first | omega)) ?_))
  case refine_1.refine_2 =>
    clear h1 h2
    refine ref09_After.lp p q hn0 hsum m1 m2 m3 m4 m5 r1 r2 r3 [0, 1, 2, 6, 7, 4] (by decide) ?_ ?_
    · simp only [raH, hmz, haz, List.flatMap_nil, List.length_nil, List.map_nil]
      refine ⟨?_, ?_, ?_, ?_, ?_, ?_, trivial⟩
      all_goals (first | exact objR_same (by simp) rfl rfl (cells_cl _) | (refine objR_cells (by simp) rfl ?_; (first | (refine rsl_lit ?_; (conv => whnf); with_reducible refine hid_mk ?_; (repeat (first | with_reducible exact RsL.nil | with_reducible refine RsL.cons (Rs.int_eq (by first | rfl)) ?_ | with_reducible refine RsL.cons (Rs.slice_eq rfl (by first | rfl) (by first | rfl | omega) (by first | rfl | omega)) ?_ | refine RsL.cons (Rs.eq rfl (by first | (simp; done))) ?_)); done) | ((repeat (first | exact rsl_flat (by intro a _; simp) (by first | rfl))); done) | fail)) | exact objR_same (by simp) rfl (by first | rfl | fail) (by first | (simp; done)) | fail)
    · simp only [hmz, haz, List.flatMap_nil, List.length_nil, List.map_nil]
      (with_reducible refine rsl_force ?_); (conv => whnf); (with_reducible refine hid_mk ?_); (repeat (first | with_reducible exact RsL.nil | with_reducible refine RsL.cons (Rs.wild _) ?_ | with_reducible refine RsL.cons (Rs.int_eq (by first | rfl | omega)) ?_ | with_reducible refine RsL.cons (Rs.ptr _ _ _ rfl) ?_ | with_reducible refine RsL.cons (Rs.slice_eq rfl (by first | rfl) (by first | omega) (by first | omega)) ?_))
  case refine_2 =>
    clear h1 h2
    refine ref09_After.lp p q hn0 hsum m1 m2 m3 m4 m5 r1 r2 r3 [0, 1, 2, 5, 7, 4] (by decide) ?_ ?_
    · simp only [raH, hmz, haz, List.flatMap_nil, List.length_nil, List.map_nil]
      refine ⟨?_, ?_, ?_, ?_, ?_, ?_, trivial⟩
      all_goals (first | exact objR_same (by simp) rfl rfl (cells_cl _) | (refine objR_cells (by simp) rfl ?_; (first | (refine rsl_lit ?_; (conv => whnf); with_reducible refine hid_mk ?_; (repeat (first | with_reducible exact RsL.nil | with_reducible refine RsL.cons (Rs.int_eq (by first | rfl)) ?_ | with_reducible refine RsL.cons (Rs.slice_eq rfl (by first | rfl) (by first | rfl | omega) (by first | rfl | omega)) ?_ | refine RsL.cons (Rs.eq rfl (by first | (simp; done))) ?_)); done) | ((repeat (first | exact rsl_flat (by intro a _; simp) (by first | rfl))); done) | fail)) | exact objR_same (by simp) rfl (by first | rfl | fail) (by first | (simp; done)) | fail)
    · simp only [hmz, haz, List.flatMap_nil, List.length_nil, List.map_nil]
      (with_reducible refine rsl_force ?_); (conv => whnf); (with_reducible refine hid_mk ?_); (repeat (first | with_reducible exact RsL.nil | with_reducible refine RsL.cons (Rs.wild _) ?_ | with_reducible refine RsL.cons (Rs.int_eq (by first | rfl | omega)) ?_ | with_reducible refine RsL.cons (Rs.ptr _ _ _ rfl) ?_ | with_reducible refine RsL.cons (Rs.slice_eq rfl (by first | rfl) (by first | omega) (by first | omega)) ?_))
theorem ref09_After.ne (p q : SProg) (hp : SMay p) (hq : SMay q) (hn0 : (q.outs.length : Int) = p.n) (hsum : p.ops.length + q.ops.length ≤ 256) (ho : q.ops ≠ []) (hu : q.outs = []) : Pure prog 19 [p.v, q.v] (.tup [(aft p q).v, .int .i64 0]) := by
  have h1 := ref09_May.t p hp
  have h2 := ref09_May.t q hq
  obtain ⟨m1, m2, m3, m4, m5⟩ := hp
  obtain ⟨r1, r2, r3, r4, r5⟩ := hq
  refine pure_of_vc ref09_After.k (List.forall_mem_cons.2 ⟨sprog_cl p, List.forall_mem_cons.2 ⟨sprog_cl q, by simp⟩⟩) ?_
  have hfl : (q.ops.flatMap SOp.enc).length = q.ops.length * 4 := flat_len (s := 4) (by intro _; rfl) q.ops
  have hol : 0 < q.ops.length := List.length_pos_iff.2 ho
  have hul : q.outs.length = 0 := by rw [hu]; rfl
  have hmz : mid p q 0 = q.ops := mid_zero p q
  have haz : atl p q 0 = [] := (atl_zero p q).trans hu
  conv => whnf
  repeat' ((first | (with_reducible refine hid_mk ?_) | (with_reducible refine bcase_df (by omega) ?_) | (with_reducible refine bcase_nf (by omega) ?_) | (with_reducible refine bcase_nbT (by omega) ?_) | (with_reducible refine bcase_nbF (by omega) ?_) | (with_reducible refine both_mk rfl ?_) | (with_reducible refine alts_mk ?_ ?_) | (with_reducible refine Pure.use (h1) ?_) | (with_reducible refine Pure.use (h2) ?_) | (with_reducible refine vblk_same ?_) | (with_reducible refine wnum_i64 (by omega) ?_) | (with_reducible refine wcat_zero (by omega) ?_) | (with_reducible refine wroom_grow (by omega) ?_) | (with_reducible refine ask_mk (by first | with_reducible assumption | omega | (refine ⟨by first | omega | (simp; done) | (simp; omega), by first | rfl | (simp [AV.isCell]; done) | (simp; omega)⟩)) ?_) | (with_reducible refine And.intro (by first | with_reducible assumption | (simp; done)) ?_)) <;> (conv => whnf))
  case refine_1.refine_1 =>
    clear h1 h2
    refine ref09_After.lp p q hn0 hsum m1 m2 m3 m4 m5 r1 r2 r3 [0, 1, 2, 6, 5, 3] (by decide) ?_ ?_
    · simp only [raH, hmz, haz, List.flatMap_nil, List.length_nil, List.map_nil]
      refine ⟨?_, ?_, ?_, ?_, ?_, ?_, trivial⟩
      all_goals (first | exact objR_vac rfl | exact objR_same (by simp) rfl rfl (cells_cl _) | (refine objR_cells (by simp) rfl ?_; (first | (refine rsl_lit ?_; (conv => whnf); with_reducible refine hid_mk ?_; (repeat (first | with_reducible exact RsL.nil | with_reducible refine RsL.cons (Rs.int_eq (by first | rfl)) ?_ | with_reducible refine RsL.cons (Rs.slice_eq rfl (by first | rfl) (by first | rfl | omega) (by first | rfl | omega)) ?_ | refine RsL.cons (Rs.eq rfl (by first | (simp; done))) ?_)); done) | ((repeat (first | exact rsl_flat (by intro a _; simp) (by first | rfl))); done) | fail)) | fail)
    · simp only [hmz, haz, List.flatMap_nil, List.length_nil, List.map_nil]
      (with_reducible refine rsl_force ?_); (conv => whnf); (with_reducible refine hid_mk ?_); (repeat (first | with_reducible exact RsL.nil | with_reducible refine RsL.cons (Rs.wild _) ?_ | with_reducible refine RsL.cons (Rs.int_eq (by first | rfl | omega)) ?_ | with_reducible refine RsL.cons (Rs.ptr _ _ _ rfl) ?_ | with_reducible refine RsL.cons (Rs.slice_eq rfl (by first | rfl) (by first | rfl) (by first | rfl)) ?_))
  case refine_1.refine_2 =>
    clear h1 h2
    refine ref09_After.lp p q hn0 hsum m1 m2 m3 m4 m5 r1 r2 r3 [0, 1, 2, 5, 6, 3] (by decide) ?_ ?_
    · simp only [raH, hmz, haz, List.flatMap_nil, List.length_nil, List.map_nil]
      refine ⟨?_, ?_, ?_, ?_, ?_, ?_, trivial⟩
      all_goals (first | exact objR_vac rfl | exact objR_same (by simp) rfl rfl (cells_cl _) | (refine objR_cells (by simp) rfl ?_; (first | (refine rsl_lit ?_; (conv => whnf); with_reducible refine hid_mk ?_; (repeat (first | with_reducible exact RsL.nil | with_reducible refine RsL.cons (Rs.int_eq (by first | rfl)) ?_ | with_reducible refine RsL.cons (Rs.slice_eq rfl (by first | rfl) (by first | rfl | omega) (by first | rfl | omega)) ?_ | refine RsL.cons (Rs.eq rfl (by first | (simp; done))) ?_)); done) | ((repeat (first | exact rsl_flat (by intro a _; simp) (by first | rfl))); done) | fail)) | fail)
    · simp only [hmz, haz, List.flatMap_nil, List.length_nil, List.map_nil]
      (with_reducible refine rsl_force ?_); (conv => whnf); (with_reducible refine hid_mk ?_); (repeat (first | with_reducible exact RsL.nil | with_reducible refine RsL.cons (Rs.wild _) ?_ | with_reducible refine RsL.cons (Rs.int_eq (by first | rfl | omega)) ?_ | with_reducible refine RsL.cons (Rs.ptr _ _ _ rfl) ?_ | with_reducible refine RsL.cons (Rs.slice_eq rfl (by first | rfl) (by first | rfl) (by first | rfl)) ?_))
  case refine_2 =>
    clear h1 h2
    refine ref09_After.lp p q hn0 hsum m1 m2 m3 m4 m5 r1 r2 r3 [0, 1, 2, 4, 6, 3] (by decide) ?_ ?_
    · simp only [raH, hmz, haz, List.flatMap_nil, List.length_nil, List.map_nil]
      refine ⟨?_, ?_, ?_, ?_, ?_, ?_, trivial⟩
      all_goals (first | exact objR_vac rfl | exact objR_same (by simp) rfl rfl (cells_cl _) | (refine objR_cells (by simp) rfl ?_; (first | (refine rsl_lit ?_; (conv => whnf); with_reducible refine hid_mk ?_; (repeat (first | with_reducible exact RsL.nil | with_reducible refine RsL.cons (Rs.int_eq (by first | rfl)) ?_ | with_reducible refine RsL.cons (Rs.slice_eq rfl (by first | rfl) (by first | rfl | omega) (by first | rfl | omega)) ?_ | refine RsL.cons (Rs.eq rfl (by first | (simp; done))) ?_)); done) | ((repeat (first | exact rsl_flat (by intro a _; simp) (by first | rfl))); done) | fail)) | fail)
    · simp only [hmz, haz, List.flatMap_nil, List.length_nil, List.map_nil]
      (with_reducible refine rsl_force ?_); (conv => whnf); (with_reducible refine hid_mk ?_); (repeat (first | with_reducible exact RsL.nil | with_reducible refine RsL.cons (Rs.wild _) ?_ | with_reducible refine RsL.cons (Rs.int_eq (by first | rfl | omega)) ?_ | with_reducible refine RsL.cons (Rs.ptr _ _ _ rfl) ?_ | with_reducible refine RsL.cons (Rs.slice_eq rfl (by first | rfl) (by first | rfl) (by first | rfl)) ?_))
theorem ref09_After.en (p q : SProg) (hp : SMay p) (hq : SMay q) (hn0 : (q.outs.length : Int) = p.n) (hsum : p.ops.length + q.ops.length ≤ 256) (ho : q.ops = []) (hu : q.outs ≠ []) : Pure prog 19 [p.v, q.v] (.tup [(aft p q).v, .int .i64 0]) := by
  have h1 := ref09_May.t p hp
  have h2 := ref09_May.t q hq
  obtain ⟨m1, m2, m3, m4, m5⟩ := hp
  obtain ⟨r1, r2, r3, r4, r5⟩ := hq
  refine pure_of_vc ref09_After.k (List.forall_mem_cons.2 ⟨sprog_cl p, List.forall_mem_cons.2 ⟨sprog_cl q, by simp⟩⟩) ?_
  have hfl : (q.ops.flatMap SOp.enc).length = q.ops.length * 4 := flat_len (s := 4) (by intro _; rfl) q.ops
  have hol : q.ops.length = 0 := by rw [ho]; rfl
  have hul : 0 < q.outs.length := List.length_pos_iff.2 hu
  have hmz : mid p q 0 = [] := (mid_zero p q).trans ho
  have haz : atl p q 0 = q.outs := atl_zero p q
  conv => whnf
  repeat' ((first | (with_reducible refine hid_mk ?_) | (with_reducible refine bcase_df (by omega) ?_) | (with_reducible refine bcase_nf (by omega) ?_) | (with_reducible refine bcase_nbT (by omega) ?_) | (with_reducible refine bcase_nbF (by omega) ?_) | (with_reducible refine both_mk rfl ?_) | (with_reducible refine alts_mk ?_ ?_) | (with_reducible refine Pure.use (h1) ?_) | (with_reducible refine Pure.use (h2) ?_) | (with_reducible refine vblk_same ?_) | (with_reducible refine wnum_i64 (by omega) ?_) | (with_reducible refine wcat_zero (by omega) ?_) | (with_reducible refine wroom_grow (by omega) ?_) | (with_reducible refine ask_mk (by first | with_reducible assumption | omega | (refine ⟨by first | omega | (simp; done) | (simp; omega), by first | rfl | (simp [AV.isCell]; done) | (simp; omega)⟩)) ?_) | (with_reducible refine And.intro (by first | with_reducible assumption | (simp; done)) ?_)) <;> (conv => whnf))
  case refine_1.refine_1 =>
    clear h1 h2
    refine ref09_After.lp p q hn0 hsum m1 m2 m3 m4 m5 r1 r2 r3 [0, 1, 2, 6, 5, 4] (by decide) ?_ ?_
    · simp only [raH, hmz, haz, List.flatMap_nil, List.length_nil, List.map_nil]
      refine ⟨?_, ?_, ?_, ?_, ?_, ?_, trivial⟩
      all_goals (first | exact objR_vac rfl | exact objR_same (by simp) rfl rfl (cells_cl _) | (refine objR_cells (by simp) rfl ?_; (first | (refine rsl_lit ?_; (conv => whnf); with_reducible refine hid_mk ?_; (repeat (first | with_reducible exact RsL.nil | with_reducible refine RsL.cons (Rs.int_eq (by first | rfl)) ?_ | with_reducible refine RsL.cons (Rs.slice_eq rfl (by first | rfl) (by first | rfl) (by first | rfl)) ?_ | refine RsL.cons (Rs.eq rfl (by first | (simp; done))) ?_)); done) | fail)) | exact objR_same (by simp) rfl (by first | rfl | fail) (by first | (simp; done)) | fail)
    · simp only [hmz, haz, List.flatMap_nil, List.length_nil, List.map_nil]
      (with_reducible refine rsl_force ?_); (conv => whnf); (with_reducible refine hid_mk ?_); (repeat (first | with_reducible exact RsL.nil | with_reducible refine RsL.cons (Rs.wild _) ?_ | with_reducible refine RsL.cons (Rs.int_eq (by first | rfl | omega)) ?_ | with_reducible refine RsL.cons (Rs.ptr _ _ _ rfl) ?_ | with_reducible refine RsL.cons (Rs.slice_eq rfl (by first | rfl) (by first | omega) (by first | omega)) ?_))
  case refine_1.refine_2 =>
    clear h1 h2
    refine ref09_After.lp p q hn0 hsum m1 m2 m3 m4 m5 r1 r2 r3 [0, 1, 2, 6, 5, 4] (by decide) ?_ ?_
    · simp only [raH, hmz, haz, List.flatMap_nil, List.length_nil, List.map_nil]
      refine ⟨?_, ?_, ?_, ?_, ?_, ?_, trivial⟩
      all_goals (first | exact objR_vac rfl | exact objR_same (by simp) rfl rfl (cells_cl _) | (refine objR_cells (by simp) rfl ?_; (first | (refine rsl_lit ?_; (conv => whnf); with_reducible refine hid_mk ?_; (repeat (first | with_reducible exact RsL.nil | with_reducible refine RsL.cons (Rs.int_eq (by first | rfl)) ?_ | with_reducible refine RsL.cons (Rs.slice_eq rfl (by first | rfl) (by first | rfl) (by first | rfl)) ?_ | refine RsL.cons (Rs.eq rfl (by first | (simp; done))) ?_)); done) | fail)) | exact objR_same (by simp) rfl (by first | rfl | fail) (by first | (simp; done)) | fail)
    · simp only [hmz, haz, List.flatMap_nil, List.length_nil, List.map_nil]
      (with_reducible refine rsl_force ?_); (conv => whnf); (with_reducible refine hid_mk ?_); (repeat (first | with_reducible exact RsL.nil | with_reducible refine RsL.cons (Rs.wild _) ?_ | with_reducible refine RsL.cons (Rs.int_eq (by first | rfl | omega)) ?_ | with_reducible refine RsL.cons (Rs.ptr _ _ _ rfl) ?_ | with_reducible refine RsL.cons (Rs.slice_eq rfl (by first | rfl) (by first | omega) (by first | omega)) ?_))
  case refine_2 =>
    clear h1 h2
    refine ref09_After.lp p q hn0 hsum m1 m2 m3 m4 m5 r1 r2 r3 [0, 1, 2, 5, 6, 4] (by decide) ?_ ?_
    · simp only [raH, hmz, haz, List.flatMap_nil, List.length_nil, List.map_nil]
      refine ⟨?_, ?_, ?_, ?_, ?_, ?_, trivial⟩
      all_goals (first | exact objR_vac rfl | exact objR_same (by simp) rfl rfl (cells_cl _) | (refine objR_cells (by simp) rfl ?_; (first | (refine rsl_lit ?_; (conv => whnf); with_reducible refine hid_mk ?_; (repeat (first | with_reducible exact RsL.nil | with_reducible refine RsL.cons (Rs.int_eq (by first | rfl)) ?_ | with_reducible refine RsL.cons (Rs.slice_eq rfl (by first | rfl) (by first | rfl) (by first | rfl)) ?_ | refine RsL.cons (Rs.eq rfl (by first | (simp; done))) ?_)); done) | fail)) | exact objR_same (by simp) rfl (by first | rfl | fail) (by first | (simp; done)) | fail)
    · simp only [hmz, haz, List.flatMap_nil, List.length_nil, List.map_nil]
      (with_reducible refine rsl_force ?_); (conv => whnf); (with_reducible refine hid_mk ?_); (repeat (first | with_reducible exact RsL.nil | with_reducible refine RsL.cons (Rs.wild _) ?_ | with_reducible refine RsL.cons (Rs.int_eq (by first | rfl | omega)) ?_ | with_reducible refine RsL.cons (Rs.ptr _ _ _ rfl) ?_ | with_reducible refine RsL.cons (Rs.slice_eq rfl (by first | rfl) (by first | omega) (by first | omega)) ?_))
theorem ref09_After.ee (p q : SProg) (hp : SMay p) (hq : SMay q) (hn0 : (q.outs.length : Int) = p.n) (hsum : p.ops.length + q.ops.length ≤ 256) (ho : q.ops = []) (hu : q.outs = []) : Pure prog 19 [p.v, q.v] (.tup [(aft p q).v, .int .i64 0]) := by
  have h1 := ref09_May.t p hp
  have h2 := ref09_May.t q hq
  obtain ⟨m1, m2, m3, m4, m5⟩ := hp
  obtain ⟨r1, r2, r3, r4, r5⟩ := hq
  refine pure_of_vc ref09_After.k (List.forall_mem_cons.2 ⟨sprog_cl p, List.forall_mem_cons.2 ⟨sprog_cl q, by simp⟩⟩) ?_
  have hfl : (q.ops.flatMap SOp.enc).length = q.ops.length * 4 := flat_len (s := 4) (by intro _; rfl) q.ops
  have hol : q.ops.length = 0 := by rw [ho]; rfl
  have hul : q.outs.length = 0 := by rw [hu]; rfl
  have hmz : mid p q 0 = [] := (mid_zero p q).trans ho
  have haz : atl p q 0 = [] := (atl_zero p q).trans hu
  conv => whnf
  repeat' ((first | (with_reducible refine hid_mk ?_) | (with_reducible refine bcase_df (by omega) ?_) | (with_reducible refine bcase_nf (by omega) ?_) | (with_reducible refine bcase_nbT (by omega) ?_) | (with_reducible refine both_mk rfl ?_) | (with_reducible refine alts_mk ?_ ?_) | (with_reducible refine Pure.use (h1) ?_) | (with_reducible refine Pure.use (h2) ?_) | (with_reducible refine vblk_same ?_) | (with_reducible refine wnum_i64 (by omega) ?_) | (with_reducible refine And.intro (by first | with_reducible assumption | (simp; done)) ?_)) <;> (conv => whnf))
  case refine_1.refine_1 =>
    clear h1 h2
    refine ref09_After.lp p q hn0 hsum m1 m2 m3 m4 m5 r1 r2 r3 [0, 1, 2, 5, 4, 3] (by decide) ?_ ?_
    · simp only [raH, hmz, haz, List.flatMap_nil, List.length_nil, List.map_nil]
      refine ⟨?_, ?_, ?_, ?_, ?_, ?_, trivial⟩
      all_goals (first | exact objR_vac rfl | exact objR_same (by simp) rfl rfl (cells_cl _) | (refine objR_cells (by simp) rfl ?_; (first | (refine rsl_lit ?_; (conv => whnf); with_reducible refine hid_mk ?_; (repeat (first | with_reducible exact RsL.nil | with_reducible refine RsL.cons (Rs.int_eq (by first | rfl)) ?_ | with_reducible refine RsL.cons (Rs.slice_eq rfl (by first | rfl) (by first | rfl) (by first | rfl)) ?_ | refine RsL.cons (Rs.eq rfl (by first | (simp; done))) ?_)); done) | fail)) | fail)
    · simp only [hmz, haz, List.flatMap_nil, List.length_nil, List.map_nil]
      (with_reducible refine rsl_force ?_); (conv => whnf); (with_reducible refine hid_mk ?_); (repeat (first | with_reducible exact RsL.nil | with_reducible refine RsL.cons (Rs.wild _) ?_ | with_reducible refine RsL.cons (Rs.int_eq (by first | rfl | omega)) ?_ | with_reducible refine RsL.cons (Rs.ptr _ _ _ rfl) ?_ | with_reducible refine RsL.cons (Rs.slice_eq rfl (by first | rfl) (by first | rfl) (by first | rfl)) ?_))
  case refine_1.refine_2 =>
    clear h1 h2
    refine ref09_After.lp p q hn0 hsum m1 m2 m3 m4 m5 r1 r2 r3 [0, 1, 2, 5, 4, 3] (by decide) ?_ ?_
    · simp only [raH, hmz, haz, List.flatMap_nil, List.length_nil, List.map_nil]
      refine ⟨?_, ?_, ?_, ?_, ?_, ?_, trivial⟩
      all_goals (first | exact objR_vac rfl | exact objR_same (by simp) rfl rfl (cells_cl _) | (refine objR_cells (by simp) rfl ?_; (first | (refine rsl_lit ?_; (conv => whnf); with_reducible refine hid_mk ?_; (repeat (first | with_reducible exact RsL.nil | with_reducible refine RsL.cons (Rs.int_eq (by first | rfl)) ?_ | with_reducible refine RsL.cons (Rs.slice_eq rfl (by first | rfl) (by first | rfl) (by first | rfl)) ?_ | refine RsL.cons (Rs.eq rfl (by first | (simp; done))) ?_)); done) | fail)) | fail)
    · simp only [hmz, haz, List.flatMap_nil, List.length_nil, List.map_nil]
      (with_reducible refine rsl_force ?_); (conv => whnf); (with_reducible refine hid_mk ?_); (repeat (first | with_reducible exact RsL.nil | with_reducible refine RsL.cons (Rs.wild _) ?_ | with_reducible refine RsL.cons (Rs.int_eq (by first | rfl | omega)) ?_ | with_reducible refine RsL.cons (Rs.ptr _ _ _ rfl) ?_ | with_reducible refine RsL.cons (Rs.slice_eq rfl (by first | rfl) (by first | rfl) (by first | rfl)) ?_))
  case refine_2 =>
    clear h1 h2
    refine ref09_After.lp p q hn0 hsum m1 m2 m3 m4 m5 r1 r2 r3 [0, 1, 2, 4, 5, 3] (by decide) ?_ ?_
    · simp only [raH, hmz, haz, List.flatMap_nil, List.length_nil, List.map_nil]
      refine ⟨?_, ?_, ?_, ?_, ?_, ?_, trivial⟩
      all_goals (first | exact objR_vac rfl | exact objR_same (by simp) rfl rfl (cells_cl _) | (refine objR_cells (by simp) rfl ?_; (first | (refine rsl_lit ?_; (conv => whnf); with_reducible refine hid_mk ?_; (repeat (first | with_reducible exact RsL.nil | with_reducible refine RsL.cons (Rs.int_eq (by first | rfl)) ?_ | with_reducible refine RsL.cons (Rs.slice_eq rfl (by first | rfl) (by first | rfl) (by first | rfl)) ?_ | refine RsL.cons (Rs.eq rfl (by first | (simp; done))) ?_)); done) | fail)) | fail)
    · simp only [hmz, haz, List.flatMap_nil, List.length_nil, List.map_nil]
      (with_reducible refine rsl_force ?_); (conv => whnf); (with_reducible refine hid_mk ?_); (repeat (first | with_reducible exact RsL.nil | with_reducible refine RsL.cons (Rs.wild _) ?_ | with_reducible refine RsL.cons (Rs.int_eq (by first | rfl | omega)) ?_ | with_reducible refine RsL.cons (Rs.ptr _ _ _ rfl) ?_ | with_reducible refine RsL.cons (Rs.slice_eq rfl (by first | rfl) (by first | rfl) (by first | rfl)) ?_))
theorem ref09_After.t (p q : SProg) (hp : SMay p) (hq : SMay q) (hn0 : (q.outs.length : Int) = p.n) (hsum : p.ops.length + q.ops.length ≤ 256) : Pure prog 19 [p.v, q.v] (.tup [(aft p q).v, .int .i64 0]) := by
  by_cases ho : q.ops = [] <;> by_cases hu : q.outs = []
  · exact ref09_After.ee p q hp hq hn0 hsum ho hu
  · exact ref09_After.en p q hp hq hn0 hsum ho hu
  · exact ref09_After.ne p q hp hq hn0 hsum ho hu
  · exact ref09_After.nn p q hp hq hn0 hsum ho hu

end Go.Proofs.YtginchgkbgcimaaDoor.C
