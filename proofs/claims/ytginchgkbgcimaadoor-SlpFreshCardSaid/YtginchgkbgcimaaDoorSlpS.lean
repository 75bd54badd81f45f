/- Straight-line programs: After: its loops; what is answered is new memory. -/
import Derived.Test.YtginchgkbgcimaaDoorSlpF
namespace Go.Proofs.YtginchgkbgcimaaDoor.C
open Go Go.RowKit Go.Proofs.YtginchgkbgcimaaDoor.AL
set_option maxRecDepth 100000
set_option maxHeartbeats 40000000
set_option linter.unusedVariables false
set_option linter.unusedSimpArgs false

theorem fin_own2 {v v' : AV} {h : Heap} {o1 o2 : AObj} (i j : Nat) (hij : i ≠ j) (hv : Rs h [i, j] [] v v') (h1 : ObjR h [i, j] [] i o1) (h2 : ObjR h [i, j] [] j o2) : fin (Back 0 (fun e h' => e = .ret v' ∧ h' = [o1, o2]) (.ret v) h) :=
  fin_mk (.mk' ⟨[i, j], [], .ret v', [o1, o2], hv, ⟨h1, h2, trivial⟩, by simpa using hij, fun j hj => absurd hj (by omega), rfl, rfl⟩)
abbrev SProg.own (p : SProg) : AV := .agg [.int .i64 p.n, .slice 0 0 p.ops.length p.ops.length, .slice 1 0 p.outs.length p.outs.length]
abbrev SProg.mem (p : SProg) : Heap := [.cells (p.ops.flatMap SOp.enc) (some 4), .cells (p.outs.map (.int .i64)) (some 1)]
theorem len_snoc' {α : Type} (L : List α) (x : α) : (L ++ [x]).length = L.length + 1 := by simp
theorem fm_snoc' (L : List SOp) (x : SOp) : (L ++ [x]).flatMap SOp.enc = L.flatMap SOp.enc ++ x.enc := by simp
abbrev saH (p q : SProg) (L : List SOp) : Heap := [.cells p.cells none, .cells q.cells none, .cells [.int .i64 0, .lit (.slice none 0 0), .lit (.slice none 0 0)] none, .cells [.int .i64 q.n, .slice 4 0 L.length L.length, .lit (.slice none 0 0)] none, .cells (L.flatMap SOp.enc) (some 4)]
abbrev saG (p q : SProg) (L : List SOp) (O : List Int) : Heap := [.cells p.cells none, .cells q.cells none, .cells [.int .i64 0, .lit (.slice none 0 0), .lit (.slice none 0 0)] none, .cells [.int .i64 q.n, .slice 4 0 L.length L.length, .slice 5 0 O.length O.length] none, .cells (L.flatMap SOp.enc) (some 4), .cells (O.map (.int .i64)) (some 1)]
abbrev saTt (p : SProg) : List AV := [.wild, .wild, .ptr 0 0, .ptr 1 0, .ptr 2 0, .int .i64 0, .ptr 3 0, .fn (.func 44) [] [.ptr 0 0, .ptr 1 0]] ++ List.replicate 67 .wild ++ [i64s p.outs, .int .i64 p.outs.length] ++ List.replicate 14 .wild

def sblkL (n : Nat) : ACode → Option ACode
  | .block i b => if i == n then (match b with | .loop c => some c | _ => none) else sblkL n b
  | .seq a b => match sblkL n a with | some x => some x | none => sblkL n b
  | .cond _ a b => match sblkL n a with | some x => some x | none => sblkL n b
  | .loop b => sblkL n b
  | .scope b => sblkL n b
  | _ => none
/-- What comes behind a block. -/
def sblkR (n : Nat) : ACode → Option ACode
  | .seq a b => if (sblkL n a).isSome then (match sblkR n a with | some r => some (.seq r b) | none => some b) else sblkR n b
  | .scope b => sblkR n b
  | _ => none
def saB : ACode := (sblkL 1 slp_After.c).getD .skip
def saR : ACode := (sblkR 1 slp_After.c).getD .skip
def saB2 : ACode := (sblkL 3 slp_After.c).getD .skip
def saR2 : ACode := (sblkR 3 slp_After.c).getD .skip
abbrev saQ (p q : SProg) : Post := retQ [RV.cell 4 (some 3), RV.tmp 5] (Back 0 fun e h' => e = AEnd.ret (AV.tup [(aft p q).own, AV.int IntKind.i64 0]) ∧ h' = (aft p q).mem)

set_option maxRecDepth 1000000

theorem slp_After.r2l (p q : SProg) (hn0 : (q.outs.length : Int) = p.n) (hsum : p.ops.length + q.ops.length ≤ 256) (m1 : 0 ≤ p.n ∧ p.n ≤ 64) (m2 : p.ops.length ≤ 256) (m3 : p.outs.length ≤ 64) (m4 : ∀ (i : Nat), i < p.ops.length → SOp.ok (p.n + ↑i) (gt p.ops i)) (m5 : ∀ (i : Nat), i < p.outs.length → 0 ≤ gt p.outs i ∧ gt p.outs i < p.n + ↑p.ops.length) (r1 : 0 ≤ q.n ∧ q.n ≤ 64) (r2 : q.ops.length ≤ 256) (r3 : q.outs.length ≤ 64) (j : Nat) (hj : j ≤ p.outs.length) (L : List SOp) (O : List Int) (Q2 : Post) (hml : L.length = q.ops.length + p.ops.length) (hol : O.length = j) (hjl : j < p.outs.length)
    (hsn : (p.outs.take (j + 1)).map (anewI p q) = O ++ [anewI p q (gt p.outs j)])
    (hv :  gt p.outs j < p.n)
    (hn : AL.Next 0 (fun a : Nat => ovr [(77, AV.int IntKind.i64 ↑a)] (wildAt slp_After.D1 (saTt p)))
      (fun j => saG p q L ((p.outs.take j).map (anewI p q))) (fun j => j ≤ p.outs.length) Q2 fun a' => p.outs.length - a' < p.outs.length - j) :
    frK [(77, AV.int IntKind.i64 ↑j)] slp_After.D1 (saTt p) (fun us => hid (vc Tryd.prog 0 saB2 Q2 us (saG p q L O))) := by
  have ho5 := m5 j hjl
  have hLl : (L.flatMap SOp.enc).length = L.length * 4 := flat_len (s := 4) (by intro _; rfl) L
  conv => whnf
  repeat' ((first | (with_reducible refine hid_mk ?_) | (with_reducible refine bcase_dt (by omega) ?_) | (with_reducible refine both_mk rfl ?_) | (with_reducible refine fin_inl ?_) | (with_reducible refine acalls_of_vc slp_After_1.k ?_) | (with_reducible refine vblk_same ?_) | (with_reducible refine wnum_i64 (by omega) ?_) | (with_reducible refine wfoc_mapc (by first | with_reducible assumption) ?_) | (with_reducible refine wfoc_map (by first | with_reducible assumption | omega) ?_) | (with_reducible refine wcut_all (by first | with_reducible assumption | (simp; done)) ?_) | (with_reducible refine wcat_map (by first | with_reducible assumption | omega) ?_) | (with_reducible refine wroom_grow (by omega) ?_) | (with_reducible refine ask_mk (by first | with_reducible assumption | omega | (refine ⟨by first | omega | (simp; done) | (simp; omega), by first | rfl | (simp [AV.isCell]; done) | (simp; omega)⟩)) ?_) | (with_reducible refine fin_hb (by kernel_rfl)) | (with_reducible refine And.intro (by first | with_reducible assumption | omega | (simp; done)) ?_) | (with_reducible refine And.intro (fin_el ?_) ?_)) <;> (conv => whnf))
  all_goals first
    | (((refine hn (j + 1) (by omega) (by omega) _ _ (.inr (next_fin (fun ts h => [0, 1, 2, 3, 4, slId h 3 2 5]) ?_))); (simp only [saG, hsn.trans (congrArg (fun z => O ++ [z]) (anewI_lo hv)), len_snoc']); (conv => whnf); (refine hid_mk ⟨⟨?_, ?_, ?_, ?_, ?_, ?_, trivial⟩, ?_⟩); (all_goals first | (first | exact objR_same (by simp) rfl rfl (cells_cl _) | (refine objR_cells (by simp) rfl ?_; (first | (refine rsl_lit ?_; (conv => whnf); with_reducible refine hid_mk ?_; (repeat (first | with_reducible exact RsL.nil | with_reducible refine RsL.cons (Rs.int_eq (by first | rfl)) ?_ | with_reducible refine RsL.cons (Rs.slice_eq rfl (by first | rfl) (by first | rfl) (by first | rfl)) ?_ | refine RsL.cons (Rs.eq rfl (by first | (simp; done))) ?_)); done) | ((repeat (first | exact rsl_flat (by intro a _; simp) (by first | rfl))); done) | fail)) | exact objR_same (by simp) rfl (by first | rfl | fail) (by first | exact idLt_map.2 (fun _ _ => by simp)) | fail) | ((with_reducible refine rsl_force ?_); (conv => whnf); (with_reducible refine hid_mk ?_); (repeat (first | with_reducible exact RsL.nil | with_reducible refine RsL.cons (Rs.wild _) ?_ | with_reducible refine RsL.cons (Rs.int_eq (by first | rfl | omega)) ?_ | with_reducible refine RsL.cons (Rs.ptr _ _ _ rfl) ?_ | refine RsL.cons (Rs.eq rfl (by first | exact idLt_mapI (by intro a; simp))) ?_ | refine RsL.cons (rs_fnL (by refine rsl_lit ?_; (conv => whnf); (refine hid_mk ?_); (repeat (first | exact RsL.nil))) (by refine rsl_lit ?_; (conv => whnf); (refine hid_mk ?_); (repeat (first | exact RsL.nil | refine RsL.cons (Rs.ptr _ _ _ rfl) ?_)))) ?_))))); done)
    | (exfalso; omega)
    | fail

theorem slp_After.r2h (p q : SProg) (hn0 : (q.outs.length : Int) = p.n) (hsum : p.ops.length + q.ops.length ≤ 256) (m1 : 0 ≤ p.n ∧ p.n ≤ 64) (m2 : p.ops.length ≤ 256) (m3 : p.outs.length ≤ 64) (m4 : ∀ (i : Nat), i < p.ops.length → SOp.ok (p.n + ↑i) (gt p.ops i)) (m5 : ∀ (i : Nat), i < p.outs.length → 0 ≤ gt p.outs i ∧ gt p.outs i < p.n + ↑p.ops.length) (r1 : 0 ≤ q.n ∧ q.n ≤ 64) (r2 : q.ops.length ≤ 256) (r3 : q.outs.length ≤ 64) (j : Nat) (hj : j ≤ p.outs.length) (L : List SOp) (O : List Int) (Q2 : Post) (hml : L.length = q.ops.length + p.ops.length) (hol : O.length = j) (hjl : j < p.outs.length)
    (hsn : (p.outs.take (j + 1)).map (anewI p q) = O ++ [anewI p q (gt p.outs j)])
    (hv : ¬ gt p.outs j < p.n)
    (hn : AL.Next 0 (fun a : Nat => ovr [(77, AV.int IntKind.i64 ↑a)] (wildAt slp_After.D1 (saTt p)))
      (fun j => saG p q L ((p.outs.take j).map (anewI p q))) (fun j => j ≤ p.outs.length) Q2 fun a' => p.outs.length - a' < p.outs.length - j) :
    frK [(77, AV.int IntKind.i64 ↑j)] slp_After.D1 (saTt p) (fun us => hid (vc Tryd.prog 0 saB2 Q2 us (saG p q L O))) := by
  have ho5 := m5 j hjl
  have hLl : (L.flatMap SOp.enc).length = L.length * 4 := flat_len (s := 4) (by intro _; rfl) L
  conv => whnf
  repeat' ((first | (with_reducible refine hid_mk ?_) | (with_reducible refine bcase_dt (by omega) ?_) | (with_reducible refine bcase_df (by omega) ?_) | (with_reducible refine both_mk rfl ?_) | (with_reducible refine fin_inl ?_) | (with_reducible refine acalls_of_vc slp_After_1.k ?_) | (with_reducible refine vblk_same ?_) | (with_reducible refine wnum_i64 (by omega) ?_) | (with_reducible refine wfoc_mapc (by first | with_reducible assumption) ?_) | (with_reducible refine wcut_all (by first | with_reducible assumption | (simp; done)) ?_) | (with_reducible refine wcat_map (by first | with_reducible assumption | omega) ?_) | (with_reducible refine wroom_grow (by omega) ?_) | (with_reducible refine ask_mk (by first | with_reducible assumption | omega | (refine ⟨by first | omega | (simp; done) | (simp; omega), by first | rfl | (simp [AV.isCell]; done) | (simp; omega)⟩)) ?_) | (with_reducible refine fin_hb (by kernel_rfl)) | (with_reducible refine And.intro (by first | with_reducible assumption | omega | (simp; done)) ?_) | (with_reducible refine And.intro (fin_el ?_) ?_)) <;> (conv => whnf))
  all_goals first
    | (((refine hn (j + 1) (by omega) (by omega) _ _ (.inr (next_fin (fun ts h => [0, 1, 2, 3, 4, slId h 3 2 5]) ?_))); (simp only [saG, hsn.trans (congrArg (fun z => O ++ [z]) (anewI_hi hv)), len_snoc']); (conv => whnf); (refine hid_mk ⟨⟨?_, ?_, ?_, ?_, ?_, ?_, trivial⟩, ?_⟩); (all_goals first | (first | exact objR_same (by simp) rfl rfl (cells_cl _) | (refine objR_cells (by simp) rfl ?_; (first | (refine rsl_lit ?_; (conv => whnf); with_reducible refine hid_mk ?_; (repeat (first | with_reducible exact RsL.nil | with_reducible refine RsL.cons (Rs.int_eq (by first | rfl)) ?_ | with_reducible refine RsL.cons (Rs.slice_eq rfl (by first | rfl) (by first | rfl) (by first | rfl)) ?_ | refine RsL.cons (Rs.eq rfl (by first | (simp; done))) ?_)); done) | ((repeat (first | exact rsl_flat (by intro a _; simp) (by first | rfl))); done) | fail)) | exact objR_same (by simp) rfl (by first | rfl | fail) (by first | exact idLt_map.2 (fun _ _ => by simp)) | fail) | ((with_reducible refine rsl_force ?_); (conv => whnf); (with_reducible refine hid_mk ?_); (repeat (first | with_reducible exact RsL.nil | with_reducible refine RsL.cons (Rs.wild _) ?_ | with_reducible refine RsL.cons (Rs.int_eq (by first | rfl | omega)) ?_ | with_reducible refine RsL.cons (Rs.ptr _ _ _ rfl) ?_ | refine RsL.cons (Rs.eq rfl (by first | exact idLt_mapI (by intro a; simp))) ?_ | refine RsL.cons (rs_fnL (by refine rsl_lit ?_; (conv => whnf); (refine hid_mk ?_); (repeat (first | exact RsL.nil))) (by refine rsl_lit ?_; (conv => whnf); (refine hid_mk ?_); (repeat (first | exact RsL.nil | refine RsL.cons (Rs.ptr _ _ _ rfl) ?_)))) ?_))))); done)
    | (exfalso; omega)
    | fail
/-- The second loop: the results. -/
theorem slp_After.lp2 (p q : SProg) (hn0 : (q.outs.length : Int) = p.n) (hsum : p.ops.length + q.ops.length ≤ 256) (m1 : 0 ≤ p.n ∧ p.n ≤ 64) (m2 : p.ops.length ≤ 256) (m3 : p.outs.length ≤ 64) (m4 : ∀ (i : Nat), i < p.ops.length → SOp.ok (p.n + ↑i) (gt p.ops i)) (m5 : ∀ (i : Nat), i < p.outs.length → 0 ≤ gt p.outs i ∧ gt p.outs i < p.n + ↑p.ops.length) (r1 : 0 ≤ q.n ∧ q.n ≤ 64) (r2 : q.ops.length ≤ 256) (r3 : q.outs.length ≤ 64) {ts : List AV} {h : Heap} (N : List Nat) (nd : N.Nodup) (ho : ObjsR (h ++ List.replicate 1 gho) N [] N (saG p q (aft p q).ops []))
    (hr : RsL (h ++ List.replicate 1 gho) N [] ts (ovr [(77, .int .i64 (0 : Nat))] (wildAt slp_After.D1 (saTt p)))) : VLoop 0 (fun Q ts h => hid (vc Tryd.prog 0 saB2 Q ts h)) (blkQ 3 (seqQ (fun ts h => hid (vc Tryd.prog 0 saR2 (saQ p q) ts h)) (saQ p q))) ts h := by
  have hml : (aft p q).ops.length = q.ops.length + p.ops.length := by rw [← mid_end]; exact mid_len (q := q) (Nat.le_refl _)
  refine vloopN 1 N [] slp_After.D1 (fun j : Nat => [(77, .int .i64 j)]) (fun j => saG p q (aft p q).ops ((p.outs.take j).map (anewI p q))) (fun j => j ≤ p.outs.length) (fun j => p.outs.length - j) 0 (by omega) nd (by simp) (by simpa only [List.take_zero, List.map_nil] using ho) (saTt p) hr ?_
  rintro j hj Q2 hn hx
  clear hr ho
  try dsimp only at hj ⊢
  have hsn := fun h : j < p.outs.length => (show (p.outs.take (j + 1)).map (anewI p q) = (p.outs.take j).map (anewI p q) ++ [anewI p q (gt p.outs j)] by rw [take_gt h, List.map_append]; rfl)
  have hol : ((p.outs.take j).map (anewI p q)).length = j := by rw [List.length_map, List.length_take]; omega
  have hoe := fun h : p.outs.length ≤ j => (show (aft p q).outs = (p.outs.take j).map (anewI p q) by rw [List.take_of_length_le h]; rfl)
  generalize hL : (aft p q).ops = L at hml hn
  generalize hO : (p.outs.take j).map (anewI p q) = O at hsn hol hoe
  by_cases hjl : j < p.outs.length
  · by_cases hv : gt p.outs j < p.n
    · exact slp_After.r2l p q hn0 hsum m1 m2 m3 m4 m5 r1 r2 r3 j hj L O Q2 hml hol hjl (hsn hjl) hv hn
    · exact slp_After.r2h p q hn0 hsum m1 m2 m3 m4 m5 r1 r2 r3 j hj L O Q2 hml hol hjl (hsn hjl) hv hn
  · have hoe := hoe (by omega)
    clear hn
    conv => whnf
    repeat' ((first | (with_reducible refine hid_mk ?_) | (with_reducible refine bcase_df (by omega) ?_) | (with_reducible refine hx _ _ _ rfl ?_)) <;> (conv => whnf))
    all_goals
      simp only [SProg.own, SProg.mem, hL, hoe]
      exact fin_own2 4 5 (by decide) (Rs.tupL (.cons (Rs.aggL (.cons (.int_eq rfl) (.cons (Rs.slice _ _ _ _ _ rfl) (.cons (Rs.slice _ _ _ _ _ rfl) .nil)))) (.cons (.int_eq rfl) .nil))) (objR_cells (by simp) rfl (rsl_flat (by intro a _; simp) rfl)) (objR_same (by simp) rfl rfl (by first | (simp; done)))

theorem slp_After.rc (p q : SProg) (hn0 : (q.outs.length : Int) = p.n) (hsum : p.ops.length + q.ops.length ≤ 256) (m1 : 0 ≤ p.n ∧ p.n ≤ 64) (m2 : p.ops.length ≤ 256) (m3 : p.outs.length ≤ 64) (m4 : ∀ (i : Nat), i < p.ops.length → SOp.ok (p.n + ↑i) (gt p.ops i)) (m5 : ∀ (i : Nat), i < p.outs.length → 0 ≤ gt p.outs i ∧ gt p.outs i < p.n + ↑p.ops.length) (r1 : 0 ≤ q.n ∧ q.n ≤ 64) (r2 : q.ops.length ≤ 256) (r3 : q.outs.length ≤ 64) (k : Nat) (hk : k ≤ p.ops.length) (L : List SOp) (Q' : Post) (hml : L.length = q.ops.length + k) (hkl : k < p.ops.length)
    (hms : mid p q (k + 1) = L ++ [anewO p q (gt p.ops k)])
    (h4 : (gt p.ops k).k = 4)
    (hn : AL.Next 0 (fun a : Nat => ovr [(50, AV.int IntKind.i64 ↑a)] (wildAt slp_After.D0 (afTs p)))
      (fun k => saH p q (mid p q k)) (fun k => k ≤ p.ops.length) Q' fun a' => p.ops.length - a' < p.ops.length - k) :
    frK [(50, AV.int IntKind.i64 ↑k)] slp_After.D0 (afTs p) (fun us => hid (vc Tryd.prog 0 saB Q' us (saH p q L))) := by
  have ho4 := m4 k hkl
  unfold SOp.ok at ho4
  have hLl : (L.flatMap SOp.enc).length = L.length * 4 := flat_len (s := 4) (by intro _; rfl) L
  conv => whnf
  repeat' ((first | (with_reducible refine hid_mk ?_) | (with_reducible refine bcase_dt (by omega) ?_) | (with_reducible refine bcase_nf (by omega) ?_) | (with_reducible refine vblk_same ?_) | (with_reducible refine wnum_i64 (by omega) ?_) | (with_reducible refine wfoc_flatc (by intro _; with_unfolding_all rfl) (by first | with_reducible assumption) ?_) | (with_reducible refine wcat_flA0 (by intro _; with_unfolding_all rfl) (by first | (simp; done)) ?_) | (with_reducible refine wcut_all (by first | with_reducible assumption | (simp; done)) ?_) | (with_reducible refine wroom_grow (by omega) ?_) | (with_reducible refine ask_mk (by first | with_reducible assumption | omega | (refine ⟨by first | omega | (simp; done) | (simp; omega), by first | rfl | (simp [AV.isCell]; done) | (simp; omega)⟩)) ?_) | (with_reducible refine And.intro (by first | with_reducible assumption | omega | (simp; done)) ?_)) <;> (conv => whnf))
  all_goals first
    | (((refine hn (k + 1) (by omega) (by omega) _ _ (.inr (next_fin (fun ts h => [0, 1, 2, 3, slId h 3 1 4]) ?_))); (simp only [saH, hms.trans (congrArg (fun z => L ++ [z]) (anewO_c h4)), fm_snoc', len_snoc']); (conv => whnf); (refine hid_mk ⟨⟨?_, ?_, ?_, ?_, ?_, trivial⟩, ?_⟩); (all_goals first | (first | exact objR_same (by simp) rfl rfl (cells_cl _) | (refine objR_cells (by simp) rfl ?_; (first | (refine rsl_lit ?_; (conv => whnf); with_reducible refine hid_mk ?_; (repeat (first | with_reducible exact RsL.nil | with_reducible refine RsL.cons (Rs.int_eq (by first | rfl)) ?_ | with_reducible refine RsL.cons (Rs.slice_eq rfl (by first | rfl) (by first | rfl) (by first | rfl)) ?_ | refine RsL.cons (Rs.eq rfl (by first | (simp; done))) ?_)); done) | ((repeat (first | with_reducible exact RsL.nil | with_reducible refine RsL.cons (Rs.int_eq (by first | rfl | omega)) ?_ | with_reducible refine RsL.append ?_ ?_ | exact rsl_flat (by intro a _; simp) (by first | rfl))); done) | fail)) | fail) | ((with_reducible refine rsl_force ?_); (conv => whnf); (with_reducible refine hid_mk ?_); (repeat (first | with_reducible exact RsL.nil | with_reducible refine RsL.cons (Rs.wild _) ?_ | with_reducible refine RsL.cons (Rs.int_eq (by first | rfl | omega)) ?_ | with_reducible refine RsL.cons (Rs.ptr _ _ _ rfl) ?_ | refine RsL.cons (Rs.eq rfl (by first | exact idLt_fl (by intro a _; simp))) ?_ | refine RsL.cons (rs_fnL (by refine rsl_lit ?_; (conv => whnf); (refine hid_mk ?_); (repeat (first | exact RsL.nil))) (by refine rsl_lit ?_; (conv => whnf); (refine hid_mk ?_); (repeat (first | exact RsL.nil | refine RsL.cons (Rs.ptr _ _ _ rfl) ?_)))) ?_))))); done)
    | (exfalso; omega)
    | fail

theorem slp_After.rll (p q : SProg) (hn0 : (q.outs.length : Int) = p.n) (hsum : p.ops.length + q.ops.length ≤ 256) (m1 : 0 ≤ p.n ∧ p.n ≤ 64) (m2 : p.ops.length ≤ 256) (m3 : p.outs.length ≤ 64) (m4 : ∀ (i : Nat), i < p.ops.length → SOp.ok (p.n + ↑i) (gt p.ops i)) (m5 : ∀ (i : Nat), i < p.outs.length → 0 ≤ gt p.outs i ∧ gt p.outs i < p.n + ↑p.ops.length) (r1 : 0 ≤ q.n ∧ q.n ≤ 64) (r2 : q.ops.length ≤ 256) (r3 : q.outs.length ≤ 64) (k : Nat) (hk : k ≤ p.ops.length) (L : List SOp) (Q' : Post) (hml : L.length = q.ops.length + k) (hkl : k < p.ops.length)
    (hms : mid p q (k + 1) = L ++ [anewO p q (gt p.ops k)])
    (h4 : ¬ (gt p.ops k).k = 4) (ha :  (gt p.ops k).a < p.n) (hbb :  (gt p.ops k).b < p.n)
    (hn : AL.Next 0 (fun a : Nat => ovr [(50, AV.int IntKind.i64 ↑a)] (wildAt slp_After.D0 (afTs p)))
      (fun k => saH p q (mid p q k)) (fun k => k ≤ p.ops.length) Q' fun a' => p.ops.length - a' < p.ops.length - k) :
    frK [(50, AV.int IntKind.i64 ↑k)] slp_After.D0 (afTs p) (fun us => hid (vc Tryd.prog 0 saB Q' us (saH p q L))) := by
  have ho4 := m4 k hkl
  unfold SOp.ok at ho4
  have hLl : (L.flatMap SOp.enc).length = L.length * 4 := flat_len (s := 4) (by intro _; rfl) L
  conv => whnf
  repeat' ((first | (with_reducible refine hid_mk ?_) | (with_reducible refine bcase_dt (by omega) ?_) | (with_reducible refine bcase_nt (by omega) ?_) | (with_reducible refine both_mk rfl ?_) | (with_reducible refine fin_inl ?_) | (with_reducible refine acalls_of_vc slp_After_1.k ?_) | (with_reducible refine vblk_same ?_) | (with_reducible refine wnum_i64 (by omega) ?_) | (with_reducible refine wfoc_map (by first | with_reducible assumption | omega) ?_) | (with_reducible refine wfoc_flatc (by intro _; with_unfolding_all rfl) (by first | with_reducible assumption) ?_) | (with_reducible refine wcat_flA0 (by intro _; with_unfolding_all rfl) (by first | (simp; done)) ?_) | (with_reducible refine wcut_all (by first | with_reducible assumption | (simp; done)) ?_) | (with_reducible refine wroom_grow (by omega) ?_) | (with_reducible refine ask_mk (by first | with_reducible assumption | omega | (refine ⟨by first | omega | (simp; done) | (simp; omega), by first | rfl | (simp [AV.isCell]; done) | (simp; omega)⟩)) ?_) | (with_reducible refine fin_hb (by kernel_rfl)) | (with_reducible refine And.intro (by first | with_reducible assumption | omega | (simp; done)) ?_) | (with_reducible refine And.intro (fin_el ?_) ?_)) <;> (conv => whnf))
  all_goals first
    | (((refine hn (k + 1) (by omega) (by omega) _ _ (.inr (next_fin (fun ts h => [0, 1, 2, 3, slId h 3 1 4]) ?_))); (simp only [saH, hms.trans (congrArg (fun z => L ++ [z]) (anewO_n h4 (anewI_lo ha) (anewI_lo hbb))), fm_snoc', len_snoc']); (conv => whnf); (refine hid_mk ⟨⟨?_, ?_, ?_, ?_, ?_, trivial⟩, ?_⟩); (all_goals first | (first | exact objR_same (by simp) rfl rfl (cells_cl _) | (refine objR_cells (by simp) rfl ?_; (first | (refine rsl_lit ?_; (conv => whnf); with_reducible refine hid_mk ?_; (repeat (first | with_reducible exact RsL.nil | with_reducible refine RsL.cons (Rs.int_eq (by first | rfl)) ?_ | with_reducible refine RsL.cons (Rs.slice_eq rfl (by first | rfl) (by first | rfl) (by first | rfl)) ?_ | refine RsL.cons (Rs.eq rfl (by first | (simp; done))) ?_)); done) | ((repeat (first | with_reducible exact RsL.nil | with_reducible refine RsL.cons (Rs.int_eq (by first | rfl)) ?_ | with_reducible refine RsL.append ?_ ?_ | exact rsl_flat (by intro a _; simp) (by first | rfl))); done) | fail)) | fail) | ((with_reducible refine rsl_force ?_); (conv => whnf); (with_reducible refine hid_mk ?_); (repeat (first | with_reducible exact RsL.nil | with_reducible refine RsL.cons (Rs.wild _) ?_ | with_reducible refine RsL.cons (Rs.int_eq (by first | rfl | omega)) ?_ | with_reducible refine RsL.cons (Rs.ptr _ _ _ rfl) ?_ | refine RsL.cons (Rs.eq rfl (by first | exact idLt_fl (by intro a _; simp))) ?_ | refine RsL.cons (rs_fnL (by refine rsl_lit ?_; (conv => whnf); (refine hid_mk ?_); (repeat (first | exact RsL.nil))) (by refine rsl_lit ?_; (conv => whnf); (refine hid_mk ?_); (repeat (first | exact RsL.nil | refine RsL.cons (Rs.ptr _ _ _ rfl) ?_)))) ?_))))); done)
    | (exfalso; omega)
    | fail

theorem slp_After.rlh (p q : SProg) (hn0 : (q.outs.length : Int) = p.n) (hsum : p.ops.length + q.ops.length ≤ 256) (m1 : 0 ≤ p.n ∧ p.n ≤ 64) (m2 : p.ops.length ≤ 256) (m3 : p.outs.length ≤ 64) (m4 : ∀ (i : Nat), i < p.ops.length → SOp.ok (p.n + ↑i) (gt p.ops i)) (m5 : ∀ (i : Nat), i < p.outs.length → 0 ≤ gt p.outs i ∧ gt p.outs i < p.n + ↑p.ops.length) (r1 : 0 ≤ q.n ∧ q.n ≤ 64) (r2 : q.ops.length ≤ 256) (r3 : q.outs.length ≤ 64) (k : Nat) (hk : k ≤ p.ops.length) (L : List SOp) (Q' : Post) (hml : L.length = q.ops.length + k) (hkl : k < p.ops.length)
    (hms : mid p q (k + 1) = L ++ [anewO p q (gt p.ops k)])
    (h4 : ¬ (gt p.ops k).k = 4) (ha :  (gt p.ops k).a < p.n) (hbb : ¬ (gt p.ops k).b < p.n)
    (hn : AL.Next 0 (fun a : Nat => ovr [(50, AV.int IntKind.i64 ↑a)] (wildAt slp_After.D0 (afTs p)))
      (fun k => saH p q (mid p q k)) (fun k => k ≤ p.ops.length) Q' fun a' => p.ops.length - a' < p.ops.length - k) :
    frK [(50, AV.int IntKind.i64 ↑k)] slp_After.D0 (afTs p) (fun us => hid (vc Tryd.prog 0 saB Q' us (saH p q L))) := by
  have ho4 := m4 k hkl
  unfold SOp.ok at ho4
  have hLl : (L.flatMap SOp.enc).length = L.length * 4 := flat_len (s := 4) (by intro _; rfl) L
  conv => whnf
  repeat' ((first | (with_reducible refine hid_mk ?_) | (with_reducible refine bcase_dt (by omega) ?_) | (with_reducible refine bcase_df (by omega) ?_) | (with_reducible refine bcase_nt (by omega) ?_) | (with_reducible refine both_mk rfl ?_) | (with_reducible refine fin_inl ?_) | (with_reducible refine acalls_of_vc slp_After_1.k ?_) | (with_reducible refine vblk_same ?_) | (with_reducible refine wnum_i64 (by omega) ?_) | (with_reducible refine wfoc_map (by first | with_reducible assumption | omega) ?_) | (with_reducible refine wfoc_flatc (by intro _; with_unfolding_all rfl) (by first | with_reducible assumption) ?_) | (with_reducible refine wcat_flA0 (by intro _; with_unfolding_all rfl) (by first | (simp; done)) ?_) | (with_reducible refine wcut_all (by first | with_reducible assumption | (simp; done)) ?_) | (with_reducible refine wroom_grow (by omega) ?_) | (with_reducible refine ask_mk (by first | with_reducible assumption | omega | (refine ⟨by first | omega | (simp; done) | (simp; omega), by first | rfl | (simp [AV.isCell]; done) | (simp; omega)⟩)) ?_) | (with_reducible refine fin_hb (by kernel_rfl)) | (with_reducible refine And.intro (by first | with_reducible assumption | omega | (simp; done)) ?_) | (with_reducible refine And.intro (fin_el ?_) ?_)) <;> (conv => whnf))
  all_goals first
    | (((refine hn (k + 1) (by omega) (by omega) _ _ (.inr (next_fin (fun ts h => [0, 1, 2, 3, slId h 3 1 4]) ?_))); (simp only [saH, hms.trans (congrArg (fun z => L ++ [z]) (anewO_n h4 (anewI_lo ha) (anewI_hi hbb))), fm_snoc', len_snoc']); (conv => whnf); (refine hid_mk ⟨⟨?_, ?_, ?_, ?_, ?_, trivial⟩, ?_⟩); (all_goals first | (first | exact objR_same (by simp) rfl rfl (cells_cl _) | (refine objR_cells (by simp) rfl ?_; (first | (refine rsl_lit ?_; (conv => whnf); with_reducible refine hid_mk ?_; (repeat (first | with_reducible exact RsL.nil | with_reducible refine RsL.cons (Rs.int_eq (by first | rfl)) ?_ | with_reducible refine RsL.cons (Rs.slice_eq rfl (by first | rfl) (by first | rfl) (by first | rfl)) ?_ | refine RsL.cons (Rs.eq rfl (by first | (simp; done))) ?_)); done) | ((repeat (first | with_reducible exact RsL.nil | with_reducible refine RsL.cons (Rs.int_eq (by first | rfl)) ?_ | with_reducible refine RsL.append ?_ ?_ | exact rsl_flat (by intro a _; simp) (by first | rfl))); done) | fail)) | fail) | ((with_reducible refine rsl_force ?_); (conv => whnf); (with_reducible refine hid_mk ?_); (repeat (first | with_reducible exact RsL.nil | with_reducible refine RsL.cons (Rs.wild _) ?_ | with_reducible refine RsL.cons (Rs.int_eq (by first | rfl | omega)) ?_ | with_reducible refine RsL.cons (Rs.ptr _ _ _ rfl) ?_ | refine RsL.cons (Rs.eq rfl (by first | exact idLt_fl (by intro a _; simp))) ?_ | refine RsL.cons (rs_fnL (by refine rsl_lit ?_; (conv => whnf); (refine hid_mk ?_); (repeat (first | exact RsL.nil))) (by refine rsl_lit ?_; (conv => whnf); (refine hid_mk ?_); (repeat (first | exact RsL.nil | refine RsL.cons (Rs.ptr _ _ _ rfl) ?_)))) ?_))))); done)
    | (exfalso; omega)
    | fail

theorem slp_After.rhl (p q : SProg) (hn0 : (q.outs.length : Int) = p.n) (hsum : p.ops.length + q.ops.length ≤ 256) (m1 : 0 ≤ p.n ∧ p.n ≤ 64) (m2 : p.ops.length ≤ 256) (m3 : p.outs.length ≤ 64) (m4 : ∀ (i : Nat), i < p.ops.length → SOp.ok (p.n + ↑i) (gt p.ops i)) (m5 : ∀ (i : Nat), i < p.outs.length → 0 ≤ gt p.outs i ∧ gt p.outs i < p.n + ↑p.ops.length) (r1 : 0 ≤ q.n ∧ q.n ≤ 64) (r2 : q.ops.length ≤ 256) (r3 : q.outs.length ≤ 64) (k : Nat) (hk : k ≤ p.ops.length) (L : List SOp) (Q' : Post) (hml : L.length = q.ops.length + k) (hkl : k < p.ops.length)
    (hms : mid p q (k + 1) = L ++ [anewO p q (gt p.ops k)])
    (h4 : ¬ (gt p.ops k).k = 4) (ha : ¬ (gt p.ops k).a < p.n) (hbb :  (gt p.ops k).b < p.n)
    (hn : AL.Next 0 (fun a : Nat => ovr [(50, AV.int IntKind.i64 ↑a)] (wildAt slp_After.D0 (afTs p)))
      (fun k => saH p q (mid p q k)) (fun k => k ≤ p.ops.length) Q' fun a' => p.ops.length - a' < p.ops.length - k) :
    frK [(50, AV.int IntKind.i64 ↑k)] slp_After.D0 (afTs p) (fun us => hid (vc Tryd.prog 0 saB Q' us (saH p q L))) := by
  have ho4 := m4 k hkl
  unfold SOp.ok at ho4
  have hLl : (L.flatMap SOp.enc).length = L.length * 4 := flat_len (s := 4) (by intro _; rfl) L
  conv => whnf
  repeat' ((first | (with_reducible refine hid_mk ?_) | (with_reducible refine bcase_dt (by omega) ?_) | (with_reducible refine bcase_df (by omega) ?_) | (with_reducible refine bcase_nt (by omega) ?_) | (with_reducible refine both_mk rfl ?_) | (with_reducible refine fin_inl ?_) | (with_reducible refine acalls_of_vc slp_After_1.k ?_) | (with_reducible refine vblk_same ?_) | (with_reducible refine wnum_i64 (by omega) ?_) | (with_reducible refine wfoc_map (by first | with_reducible assumption | omega) ?_) | (with_reducible refine wfoc_flatc (by intro _; with_unfolding_all rfl) (by first | with_reducible assumption) ?_) | (with_reducible refine wcat_flA0 (by intro _; with_unfolding_all rfl) (by first | (simp; done)) ?_) | (with_reducible refine wcut_all (by first | with_reducible assumption | (simp; done)) ?_) | (with_reducible refine wroom_grow (by omega) ?_) | (with_reducible refine ask_mk (by first | with_reducible assumption | omega | (refine ⟨by first | omega | (simp; done) | (simp; omega), by first | rfl | (simp [AV.isCell]; done) | (simp; omega)⟩)) ?_) | (with_reducible refine fin_hb (by kernel_rfl)) | (with_reducible refine And.intro (by first | with_reducible assumption | omega | (simp; done)) ?_) | (with_reducible refine And.intro (fin_el ?_) ?_)) <;> (conv => whnf))
  all_goals first
    | (((refine hn (k + 1) (by omega) (by omega) _ _ (.inr (next_fin (fun ts h => [0, 1, 2, 3, slId h 3 1 4]) ?_))); (simp only [saH, hms.trans (congrArg (fun z => L ++ [z]) (anewO_n h4 (anewI_hi ha) (anewI_lo hbb))), fm_snoc', len_snoc']); (conv => whnf); (refine hid_mk ⟨⟨?_, ?_, ?_, ?_, ?_, trivial⟩, ?_⟩); (all_goals first | (first | exact objR_same (by simp) rfl rfl (cells_cl _) | (refine objR_cells (by simp) rfl ?_; (first | (refine rsl_lit ?_; (conv => whnf); with_reducible refine hid_mk ?_; (repeat (first | with_reducible exact RsL.nil | with_reducible refine RsL.cons (Rs.int_eq (by first | rfl)) ?_ | with_reducible refine RsL.cons (Rs.slice_eq rfl (by first | rfl) (by first | rfl) (by first | rfl)) ?_ | refine RsL.cons (Rs.eq rfl (by first | (simp; done))) ?_)); done) | ((repeat (first | with_reducible exact RsL.nil | with_reducible refine RsL.cons (Rs.int_eq (by first | rfl)) ?_ | with_reducible refine RsL.append ?_ ?_ | exact rsl_flat (by intro a _; simp) (by first | rfl))); done) | fail)) | fail) | ((with_reducible refine rsl_force ?_); (conv => whnf); (with_reducible refine hid_mk ?_); (repeat (first | with_reducible exact RsL.nil | with_reducible refine RsL.cons (Rs.wild _) ?_ | with_reducible refine RsL.cons (Rs.int_eq (by first | rfl | omega)) ?_ | with_reducible refine RsL.cons (Rs.ptr _ _ _ rfl) ?_ | refine RsL.cons (Rs.eq rfl (by first | exact idLt_fl (by intro a _; simp))) ?_ | refine RsL.cons (rs_fnL (by refine rsl_lit ?_; (conv => whnf); (refine hid_mk ?_); (repeat (first | exact RsL.nil))) (by refine rsl_lit ?_; (conv => whnf); (refine hid_mk ?_); (repeat (first | exact RsL.nil | refine RsL.cons (Rs.ptr _ _ _ rfl) ?_)))) ?_))))); done)
    | (exfalso; omega)
    | fail

theorem slp_After.rhh (p q : SProg) (hn0 : (q.outs.length : Int) = p.n) (hsum : p.ops.length + q.ops.length ≤ 256) (m1 : 0 ≤ p.n ∧ p.n ≤ 64) (m2 : p.ops.length ≤ 256) (m3 : p.outs.length ≤ 64) (m4 : ∀ (i : Nat), i < p.ops.length → SOp.ok (p.n + ↑i) (gt p.ops i)) (m5 : ∀ (i : Nat), i < p.outs.length → 0 ≤ gt p.outs i ∧ gt p.outs i < p.n + ↑p.ops.length) (r1 : 0 ≤ q.n ∧ q.n ≤ 64) (r2 : q.ops.length ≤ 256) (r3 : q.outs.length ≤ 64) (k : Nat) (hk : k ≤ p.ops.length) (L : List SOp) (Q' : Post) (hml : L.length = q.ops.length + k) (hkl : k < p.ops.length)
    (hms : mid p q (k + 1) = L ++ [anewO p q (gt p.ops k)])
    (h4 : ¬ (gt p.ops k).k = 4) (ha : ¬ (gt p.ops k).a < p.n) (hbb : ¬ (gt p.ops k).b < p.n)
    (hn : AL.Next 0 (fun a : Nat => ovr [(50, AV.int IntKind.i64 ↑a)] (wildAt slp_After.D0 (afTs p)))
      (fun k => saH p q (mid p q k)) (fun k => k ≤ p.ops.length) Q' fun a' => p.ops.length - a' < p.ops.length - k) :
    frK [(50, AV.int IntKind.i64 ↑k)] slp_After.D0 (afTs p) (fun us => hid (vc Tryd.prog 0 saB Q' us (saH p q L))) := by
  have ho4 := m4 k hkl
  unfold SOp.ok at ho4
  have hLl : (L.flatMap SOp.enc).length = L.length * 4 := flat_len (s := 4) (by intro _; rfl) L
  conv => whnf
  repeat' ((first | (with_reducible refine hid_mk ?_) | (with_reducible refine bcase_dt (by omega) ?_) | (with_reducible refine bcase_df (by omega) ?_) | (with_reducible refine bcase_nt (by omega) ?_) | (with_reducible refine both_mk rfl ?_) | (with_reducible refine fin_inl ?_) | (with_reducible refine acalls_of_vc slp_After_1.k ?_) | (with_reducible refine vblk_same ?_) | (with_reducible refine wnum_i64 (by omega) ?_) | (with_reducible refine wfoc_flatc (by intro _; with_unfolding_all rfl) (by first | with_reducible assumption) ?_) | (with_reducible refine wcat_flA0 (by intro _; with_unfolding_all rfl) (by first | (simp; done)) ?_) | (with_reducible refine wcut_all (by first | with_reducible assumption | (simp; done)) ?_) | (with_reducible refine wroom_grow (by omega) ?_) | (with_reducible refine ask_mk (by first | with_reducible assumption | omega | (refine ⟨by first | omega | (simp; done) | (simp; omega), by first | rfl | (simp [AV.isCell]; done) | (simp; omega)⟩)) ?_) | (with_reducible refine fin_hb (by kernel_rfl)) | (with_reducible refine And.intro (by first | with_reducible assumption | omega | (simp; done)) ?_) | (with_reducible refine And.intro (fin_el ?_) ?_)) <;> (conv => whnf))
  all_goals first
    | (((refine hn (k + 1) (by omega) (by omega) _ _ (.inr (next_fin (fun ts h => [0, 1, 2, 3, slId h 3 1 4]) ?_))); (simp only [saH, hms.trans (congrArg (fun z => L ++ [z]) (anewO_n h4 (anewI_hi ha) (anewI_hi hbb))), fm_snoc', len_snoc']); (conv => whnf); (refine hid_mk ⟨⟨?_, ?_, ?_, ?_, ?_, trivial⟩, ?_⟩); (all_goals first | (first | exact objR_same (by simp) rfl rfl (cells_cl _) | (refine objR_cells (by simp) rfl ?_; (first | (refine rsl_lit ?_; (conv => whnf); with_reducible refine hid_mk ?_; (repeat (first | with_reducible exact RsL.nil | with_reducible refine RsL.cons (Rs.int_eq (by first | rfl)) ?_ | with_reducible refine RsL.cons (Rs.slice_eq rfl (by first | rfl) (by first | rfl) (by first | rfl)) ?_ | refine RsL.cons (Rs.eq rfl (by first | (simp; done))) ?_)); done) | ((repeat (first | with_reducible exact RsL.nil | with_reducible refine RsL.cons (Rs.int_eq (by first | rfl)) ?_ | with_reducible refine RsL.append ?_ ?_ | exact rsl_flat (by intro a _; simp) (by first | rfl))); done) | fail)) | fail) | ((with_reducible refine rsl_force ?_); (conv => whnf); (with_reducible refine hid_mk ?_); (repeat (first | with_reducible exact RsL.nil | with_reducible refine RsL.cons (Rs.wild _) ?_ | with_reducible refine RsL.cons (Rs.int_eq (by first | rfl | omega)) ?_ | with_reducible refine RsL.cons (Rs.ptr _ _ _ rfl) ?_ | refine RsL.cons (Rs.eq rfl (by first | exact idLt_fl (by intro a _; simp))) ?_ | refine RsL.cons (rs_fnL (by refine rsl_lit ?_; (conv => whnf); (refine hid_mk ?_); (repeat (first | exact RsL.nil))) (by refine rsl_lit ?_; (conv => whnf); (refine hid_mk ?_); (repeat (first | exact RsL.nil | refine RsL.cons (Rs.ptr _ _ _ rfl) ?_)))) ?_))))); done)
    | (exfalso; omega)
    | fail

/-- The first loop: the operations. -/
theorem slp_After.lp (p q : SProg) (hn0 : (q.outs.length : Int) = p.n) (hsum : p.ops.length + q.ops.length ≤ 256) (m1 : 0 ≤ p.n ∧ p.n ≤ 64) (m2 : p.ops.length ≤ 256) (m3 : p.outs.length ≤ 64) (m4 : ∀ (i : Nat), i < p.ops.length → SOp.ok (p.n + ↑i) (gt p.ops i)) (m5 : ∀ (i : Nat), i < p.outs.length → 0 ≤ gt p.outs i ∧ gt p.outs i < p.n + ↑p.ops.length) (r1 : 0 ≤ q.n ∧ q.n ≤ 64) (r2 : q.ops.length ≤ 256) (r3 : q.outs.length ≤ 64) {ts : List AV} {h : Heap} (g : Nat) (N : List Nat) (nd : N.Nodup) (ho : ObjsR (h ++ List.replicate g gho) N [] N (saH p q (mid p q 0)))
    (hr : RsL (h ++ List.replicate g gho) N [] ts (ovr [(50, AV.int IntKind.i64 (0 : Nat))] (wildAt slp_After.D0 (afTs p)))) : VLoop 0 (fun Q ts h => hid (vc Tryd.prog 0 saB Q ts h)) (blkQ 1 (seqQ (fun ts h => hid (vc Tryd.prog 0 saR (saQ p q) ts h)) (saQ p q))) ts h := by
  refine vloopN g N [] slp_After.D0 (fun k : Nat => [(50, .int .i64 k)]) (fun k => saH p q (mid p q k)) (fun k => k ≤ p.ops.length) (fun k => p.ops.length - k) 0 (by omega) nd (by simp) ho (afTs p) hr ?_
  rintro k hk Q' hn hx
  clear hr ho
  try dsimp only at hk ⊢
  have hml := mid_len (q := q) hk
  have hms := fun h : k < p.ops.length => mid_succ (q := q) h
  have hE := fun h : k = p.ops.length => (show mid p q k = (aft p q).ops by rw [h, mid_end])
  generalize mid p q k = L at hml hms hE
  by_cases hkl : k < p.ops.length
  · by_cases h4 : (gt p.ops k).k = 4
    · exact slp_After.rc p q hn0 hsum m1 m2 m3 m4 m5 r1 r2 r3 k hk L Q' hml hkl (hms hkl) h4 hn
    · by_cases ha : (gt p.ops k).a < p.n <;> by_cases hbb : (gt p.ops k).b < p.n
      · exact slp_After.rll p q hn0 hsum m1 m2 m3 m4 m5 r1 r2 r3 k hk L Q' hml hkl (hms hkl) h4 ha hbb hn
      · exact slp_After.rlh p q hn0 hsum m1 m2 m3 m4 m5 r1 r2 r3 k hk L Q' hml hkl (hms hkl) h4 ha hbb hn
      · exact slp_After.rhl p q hn0 hsum m1 m2 m3 m4 m5 r1 r2 r3 k hk L Q' hml hkl (hms hkl) h4 ha hbb hn
      · exact slp_After.rhh p q hn0 hsum m1 m2 m3 m4 m5 r1 r2 r3 k hk L Q' hml hkl (hms hkl) h4 ha hbb hn
  · have hkk : k = p.ops.length := by omega
    have hE' := hE hkk
    clear hE hn hms
    subst hkk
    subst hE'
    conv => whnf
    repeat' ((first | (with_reducible refine hid_mk ?_) | (with_reducible refine bcase_df (by omega) ?_) | (with_reducible refine hx _ _ _ rfl ?_) | (with_reducible refine vblk_same ?_)) <;> (conv => whnf))
    refine slp_After.lp2 p q hn0 hsum m1 m2 m3 m4 m5 r1 r2 r3 [0, 1, 2, 3, 4, 5] (by decide) ?_ ?_
    · refine ⟨?_, ?_, ?_, ?_, ?_, ?_, trivial⟩
      all_goals (first | exact objR_vac rfl | exact objR_same (by simp) rfl rfl (cells_cl _) | (refine objR_cells (by simp) rfl ?_; (first | (refine rsl_lit ?_; (conv => whnf); with_reducible refine hid_mk ?_; (repeat (first | with_reducible exact RsL.nil | with_reducible refine RsL.cons (Rs.int_eq (by first | rfl)) ?_ | with_reducible refine RsL.cons (Rs.slice_eq rfl (by first | rfl) (by first | rfl) (by first | rfl)) ?_ | refine RsL.cons (Rs.nilS _ _ rfl (by simp)) ?_ | refine RsL.cons (Rs.eq rfl (by first | (simp; done))) ?_)); done) | ((repeat (first | exact rsl_flat (by intro a _; simp) (by first | rfl))); done) | fail)) | fail)
    · (with_reducible refine rsl_force ?_); (conv => whnf); (with_reducible refine hid_mk ?_); (repeat (first | with_reducible exact RsL.nil | with_reducible refine RsL.cons (Rs.wild _) ?_ | with_reducible refine RsL.cons (Rs.int_eq (by first | rfl | omega)) ?_ | with_reducible refine RsL.cons (Rs.ptr _ _ _ rfl) ?_ | refine RsL.cons (Rs.eq rfl (by first | exact idLt_mapI (by intro a; simp))) ?_ | refine RsL.cons (rs_fnL (by refine rsl_lit ?_; (conv => whnf); (refine hid_mk ?_); (repeat (first | exact RsL.nil))) (by refine rsl_lit ?_; (conv => whnf); (refine hid_mk ?_); (repeat (first | exact RsL.nil | refine RsL.cons (Rs.ptr _ _ _ rfl) ?_)))) ?_))

end Go.Proofs.YtginchgkbgcimaaDoor.C

namespace Go.Proofs.YtginchgkbgcimaaDoor.C
open Go Go.RowKit Go.Proofs.YtginchgkbgcimaaDoor.AL
set_option maxRecDepth 100000
set_option maxHeartbeats 40000000
set_option linter.unusedVariables false
set_option linter.unusedSimpArgs false

set_option maxRecDepth 1000000
theorem slp_After.on (p q : SProg) (hp : SMay p) (hq : SMay q) (hn0 : (q.outs.length : Int) = p.n) (hsum : p.ops.length + q.ops.length ≤ 256) (hq1 : 0 < q.ops.length) : ACalls prog 18 [p.v, q.v] [] (fun e h' => e = .ret (.tup [(aft p q).own, .int .i64 0]) ∧ h' = (aft p q).mem) := by
  have h1 := slp_May.t p hp
  have h2 := slp_May.t q hq
  obtain ⟨m1, m2, m3, m4, m5⟩ := hp
  obtain ⟨r1, r2, r3, r4, r5⟩ := hq
  refine acalls_of_vc slp_After.k ?_
  have hfl : (q.ops.flatMap SOp.enc).length = q.ops.length * 4 := flat_len (s := 4) (by intro _; rfl) q.ops
  conv => whnf
  repeat' ((first | (with_reducible refine hid_mk ?_) | (with_reducible refine bcase_df (by omega) ?_) | (with_reducible refine bcase_nf (by omega) ?_) | (with_reducible refine bcase_nbF (by omega) ?_) | (with_reducible refine both_mk rfl ?_) | (with_reducible refine alts_mk ?_ ?_) | (with_reducible refine fin_inl ?_) | (with_reducible refine Pure.use (h1) ?_) | (with_reducible refine Pure.use (h2) ?_) | (with_reducible refine acalls_of_vc slices_Clone_api_Op_api_Op.k ?_) | (with_reducible refine vblk_same ?_) | (with_reducible refine wnum_i64 (by omega) ?_) | (with_reducible refine wcat_zero (by omega) ?_) | (with_reducible refine wroom_grow (by omega) ?_) | (with_reducible refine ask_mk (by first | with_reducible assumption | omega | (refine ⟨by first | omega | (simp; done) | (simp; omega), by first | rfl | (simp [AV.isCell]; done) | (simp; omega)⟩)) ?_) | (with_reducible refine And.intro (hid_mk (fun hb => ?_)) (hid_mk ?_)) | (with_reducible refine And.intro (by first | with_reducible assumption) ?_)) <;> (conv => whnf))
  all_goals try (exfalso; omega)
  case refine_1.refine_2 =>
    clear h1 h2
    refine slp_After.lp p q hn0 hsum m1 m2 m3 m4 m5 r1 r2 r3 0 [0, 1, 2, 5, 4] (by decide) ?_ ?_
    · simp only [saH, mid_zero]
      refine ⟨?_, ?_, ?_, ?_, ?_, trivial⟩
      all_goals (first | exact objR_same (by simp) rfl rfl (cells_cl _) | (refine objR_cells (by simp) rfl ?_; (first | (refine rsl_lit ?_; (conv => whnf); with_reducible refine hid_mk ?_; (repeat (first | with_reducible exact RsL.nil | with_reducible refine RsL.cons (Rs.int_eq (by first | rfl)) ?_ | with_reducible refine RsL.cons (Rs.slice_eq rfl (by first | rfl) (by first | rfl | omega) (by first | rfl | omega)) ?_ | refine RsL.cons (Rs.eq rfl (by first | (simp; done))) ?_)); done) | ((repeat (first | exact rsl_flat (by intro a _; simp) (by first | rfl))); done) | fail)) | fail)
    · (with_reducible refine rsl_force ?_); (conv => whnf); (with_reducible refine hid_mk ?_); (repeat (first | with_reducible exact RsL.nil | with_reducible refine RsL.cons (Rs.wild _) ?_ | with_reducible refine RsL.cons (Rs.int_eq (by first | rfl | omega)) ?_ | with_reducible refine RsL.cons (Rs.ptr _ _ _ rfl) ?_ | refine RsL.cons (Rs.eq rfl (by first | exact idLt_fl (by intro a _; simp))) ?_ | refine RsL.cons (rs_fnL (by refine rsl_lit ?_; (conv => whnf); (refine hid_mk ?_); (repeat (first | exact RsL.nil))) (by refine rsl_lit ?_; (conv => whnf); (refine hid_mk ?_); (repeat (first | exact RsL.nil | refine RsL.cons (Rs.ptr _ _ _ rfl) ?_)))) ?_))
  case refine_2.refine_2 =>
    clear h1 h2
    refine slp_After.lp p q hn0 hsum m1 m2 m3 m4 m5 r1 r2 r3 0 [0, 1, 2, 3, 5] (by decide) ?_ ?_
    · simp only [saH, mid_zero]
      refine ⟨?_, ?_, ?_, ?_, ?_, trivial⟩
      all_goals (first | exact objR_same (by simp) rfl rfl (cells_cl _) | (refine objR_cells (by simp) rfl ?_; (first | (refine rsl_lit ?_; (conv => whnf); with_reducible refine hid_mk ?_; (repeat (first | with_reducible exact RsL.nil | with_reducible refine RsL.cons (Rs.int_eq (by first | rfl)) ?_ | with_reducible refine RsL.cons (Rs.slice_eq rfl (by first | rfl) (by first | rfl | omega) (by first | rfl | omega)) ?_ | refine RsL.cons (Rs.eq rfl (by first | (simp; done))) ?_)); done) | ((repeat (first | exact rsl_flat (by intro a _; simp) (by first | rfl))); done) | fail)) | fail)
    · (with_reducible refine rsl_force ?_); (conv => whnf); (with_reducible refine hid_mk ?_); (repeat (first | with_reducible exact RsL.nil | with_reducible refine RsL.cons (Rs.wild _) ?_ | with_reducible refine RsL.cons (Rs.int_eq (by first | rfl | omega)) ?_ | with_reducible refine RsL.cons (Rs.ptr _ _ _ rfl) ?_ | refine RsL.cons (Rs.eq rfl (by first | exact idLt_fl (by intro a _; simp))) ?_ | refine RsL.cons (rs_fnL (by refine rsl_lit ?_; (conv => whnf); (refine hid_mk ?_); (repeat (first | exact RsL.nil))) (by refine rsl_lit ?_; (conv => whnf); (refine hid_mk ?_); (repeat (first | exact RsL.nil | refine RsL.cons (Rs.ptr _ _ _ rfl) ?_)))) ?_))
theorem slp_After.oe (p q : SProg) (hp : SMay p) (hq : SMay q) (hn0 : (q.outs.length : Int) = p.n) (hsum : p.ops.length + q.ops.length ≤ 256) (hq0 : q.ops = []) : ACalls prog 18 [p.v, q.v] [] (fun e h' => e = .ret (.tup [(aft p q).own, .int .i64 0]) ∧ h' = (aft p q).mem) := by
  have h1 := slp_May.t p hp
  have h2 := slp_May.t q hq
  obtain ⟨m1, m2, m3, m4, m5⟩ := hp
  obtain ⟨r1, r2, r3, r4, r5⟩ := hq
  have hcl : ∀ x ∈ [p.v, q.v], IdLt 0 x := List.forall_mem_cons.2 ⟨sprog_cl p, List.forall_mem_cons.2 ⟨sprog_cl q, by simp⟩⟩
  have hv : q.v = .agg [.int .i64 q.n, .islice false 0 [], i64s q.outs] := by simp [SProg.v, SProg.cells, opsV, hq0]
  have hcs : q.cells = [.int .i64 q.n, .islice false 0 [], i64s q.outs] := by simp [SProg.cells, opsV, hq0]
  have hql : q.ops.length = 0 := by simp [hq0]
  have hmz : mid p q 0 = [] := (mid_zero p q).trans hq0
  rw [hv] at h2 ⊢
  refine acalls_of_vc slp_After.k ?_
  conv => whnf
  repeat' ((first | (with_reducible refine hid_mk ?_) | (with_reducible refine bcase_df (by omega) ?_) | (with_reducible refine bcase_nf (by omega) ?_) | (with_reducible refine both_mk rfl ?_) | (with_reducible refine alts_mk ?_ ?_) | (with_reducible refine Pure.use (h1) ?_) | (with_reducible refine Pure.use (h2) ?_) | (with_reducible refine Pure.use (slices_CloneOps.e) ?_) | (with_reducible refine vblk_same ?_) | (with_reducible refine wnum_i64 (by omega) ?_)) <;> (conv => whnf))
  all_goals
    clear h1 h2
    refine slp_After.lp p q hn0 hsum m1 m2 m3 m4 m5 r1 r2 r3 1 [0, 1, 2, 3, 4] (by decide) ?_ ?_
    · simp only [saH, hmz, hcs, List.flatMap_nil, List.length_nil]
      refine ⟨?_, ?_, ?_, ?_, ?_, trivial⟩
      all_goals (first | exact objR_vac rfl | exact objR_same (by simp) rfl rfl (cells_cl _) | (refine objR_cells (by simp) rfl ?_; (first | (refine rsl_lit ?_; (conv => whnf); with_reducible refine hid_mk ?_; (repeat (first | with_reducible exact RsL.nil | with_reducible refine RsL.cons (Rs.int_eq (by first | rfl)) ?_ | refine RsL.cons (Rs.isliceS _ _ rfl (by simp)) ?_ | refine RsL.cons (Rs.eq rfl (by first | exact idLt_mapI (by intro a; simp) | (simp; done))) ?_)); done) | fail)) | fail)
    · (with_reducible refine rsl_force ?_); (conv => whnf); (with_reducible refine hid_mk ?_); (repeat (first | with_reducible exact RsL.nil | with_reducible refine RsL.cons (Rs.wild _) ?_ | with_reducible refine RsL.cons (Rs.int_eq (by first | rfl | omega)) ?_ | with_reducible refine RsL.cons (Rs.ptr _ _ _ rfl) ?_ | refine RsL.cons (Rs.eq rfl (by first | exact idLt_fl (by intro a _; simp))) ?_ | refine RsL.cons (rs_fnL (by refine rsl_lit ?_; (conv => whnf); (refine hid_mk ?_); (repeat (first | exact RsL.nil))) (by refine rsl_lit ?_; (conv => whnf); (refine hid_mk ?_); (repeat (first | exact RsL.nil | refine RsL.cons (Rs.ptr _ _ _ rfl) ?_)))) ?_))
theorem slp_After.o (p q : SProg) (hp : SMay p) (hq : SMay q) (hn0 : (q.outs.length : Int) = p.n) (hsum : p.ops.length + q.ops.length ≤ 256) : ACalls prog 18 [p.v, q.v] [] (fun e h' => e = .ret (.tup [(aft p q).own, .int .i64 0]) ∧ h' = (aft p q).mem) := by
  by_cases h : q.ops = []
  · exact slp_After.oe p q hp hq hn0 hsum h
  · exact slp_After.on p q hp hq hn0 hsum (List.length_pos_iff.2 h)
/-- The same, what is answered only looked at. -/
theorem slp_After.s (p q : SProg) (hp : SMay p) (hq : SMay q) (hn0 : (q.outs.length : Int) = p.n) (hsum : p.ops.length + q.ops.length ≤ 256) : Pure prog 18 [p.v, q.v] (.tup [(aft p q).v, .int .i64 0]) := by
  refine ⟨(ACalls.mono (slp_After.o p q hp hq hn0 hsum) ?_).back, List.forall_mem_cons.2 ⟨sprog_cl p, List.forall_mem_cons.2 ⟨sprog_cl q, by simp⟩⟩⟩
  rintro e h' ⟨rfl, rfl⟩
  exact fin_el (fin_rs [0, 1] (Rs.tupL (.cons (Rs.aggL (.cons (.int_eq rfl) (.cons (rs_ops rfl (by simp) rfl rfl) (.cons (rs_ownO rfl (by simp) rfl) .nil)))) (.cons (.int_eq rfl) .nil))))

end Go.Proofs.YtginchgkbgcimaaDoor.C
