/- Contracts of package replan: exclusions. -/
import Derived.Test.YtbalpmdoeikkbaaReplanA
namespace Go.Proofs.Ytbalpmdoeikkbaa.C
open Go Go.RowKit Go.Proofs.Ytbalpmdoeikkbaa.AL
set_option maxRecDepth 100000
set_option maxHeartbeats 2000000

/-- Those that are marked. -/
def marked (ms : List Bool) (x : Int) : Bool := gt ms x.toNat

theorem replan_Exclude_1.a (ms : List Bool) (hm : ms.length = 64) (x : Int) (h0 : 0 ≤ x ∧ x < 64) : ACalls prog 22 [.int .i64 x, .ptr 0 0] [.cells (ms.map AV.bool) none] fun e h' => e = .ret (.bool (marked ms x)) ∧ h' = [.cells (ms.map AV.bool) none] := by
  refine acalls_of_vc replan_Exclude_1.k ?_
  conv => whnf
  repeat' ((first
    | (with_reducible refine hid_mk ?_)
    | (with_reducible refine bcase_not ?_)
    | (with_reducible refine bcase_true (by with_reducible assumption) ?_)
    | (with_reducible refine bcase_false (by with_reducible assumption) ?_)
    | (with_reducible refine bcase_dt (by omega) ?_)
    | (with_reducible refine bcase_df (by omega) ?_)
    | (with_reducible refine bcase_et (by omega) ?_)
    | (with_reducible refine bcase_ef (by omega) ?_)
    | (with_reducible refine bcase_nt (by omega) ?_)
    | (with_reducible refine bcase_nf (by omega) ?_)
    | (with_reducible refine bcase_dec (fun hb => ?_) (fun hb => ?_))
    | (with_reducible refine bcase_beq (fun hb => ?_) (fun hb => ?_))
    | (with_reducible refine bcase_bne (fun hb => ?_) (fun hb => ?_))
    | (with_reducible refine bcase_nbeq (fun hb => ?_) (fun hb => ?_))
    | (with_reducible refine bcase_mk (fun hb => ?_) (fun hb => ?_))
    | (with_reducible refine both_mk rfl ?_)
    | (with_reducible refine hx _ _ _ rfl ?_)
    | (with_reducible refine hx2 _ _ _ rfl ?_)
    | (with_reducible refine wnum_i64 (by omega) ?_)
    | (with_reducible refine wnum_u64 (by omega) ?_)
    | (with_reducible refine wnum_u8 (by omega) ?_)
    | (with_reducible refine wrem_nn (by omega) ?_)
    | (with_reducible refine wnum_mk ?_)
    | (with_reducible refine wfoc_mapc (by first | with_reducible assumption | omega | (simp; done) | (simp; omega)) ?_)
    | (with_reducible refine wfoc_map (by first | with_reducible assumption | omega | (simp; done) | (simp; omega)) ?_)
    | (with_reducible refine wfoc_flatc (by intro _; rfl) (by first | with_reducible assumption | omega | (simp; done) | (simp; omega)) ?_)
    | (with_reducible refine wfoc_flat (by intro _; rfl) (by first | with_reducible assumption | omega | (simp; done) | (simp; omega)) ?_)
    | (with_reducible refine wald_mapc (by first | with_reducible assumption | omega | (simp; done) | (simp; omega)) ?_)
    | (with_reducible refine wald_map (by first | with_reducible assumption | omega | (simp; done) | (simp; omega)) ?_)
    | (with_reducible refine wast_mapc rfl rfl (by first | with_reducible assumption | omega | (simp; done) | (simp; omega)) ?_)
    | (with_reducible refine wast_map rfl rfl (by first | with_reducible assumption | omega | (simp; done) | (simp; omega)) ?_)
    | (with_reducible refine wrep_int ?_)
    | (with_reducible refine wrep_bool ?_)
    | (with_reducible refine wrep_mk ?_)
    | (with_reducible refine wzero_lt (by omega) ?_)
    | (with_reducible refine wzero_eq (by omega) ?_)
    | (with_reducible refine wcut_all (by first | with_reducible assumption | omega | (simp; done) | (simp; omega)) ?_)
    | (with_reducible refine wcut_map ?_)
    | (with_reducible refine wcat_map (by first | with_reducible assumption | omega | (simp; done) | (simp; omega)) ?_)
    | (with_reducible refine wroom_grow (by omega) ?_)
    | (with_reducible refine wroom_in (by omega) ?_)
    | (refine wfoc_lit (by decide) rfl ?_)
    | (refine wald_lit rfl ?_)
    | (refine wast_lit rfl ?_)
    | (with_reducible refine wcut_lit ?_)
    | (refine wcat_lit rfl ?_)
    | (with_reducible refine ask_mk (by first | with_reducible assumption | omega | (simp; done) | (simp; omega) | (refine ⟨by first | omega | (simp; done) | (simp; omega), by first | rfl | (simp [AV.isCell]; done) | (simp; omega)⟩)) ?_)
    | (with_reducible refine fin_nle (by first | omega | (simp; done) | (simp; omega)))
    | (with_reducible refine fin_nat (by first | omega | (simp; done) | (simp; omega)))
    | (with_reducible refine And.intro (hid_mk (fun hb => ?_)) (hid_mk ?_))
    | (with_reducible refine And.intro (by first | with_reducible assumption | omega | (simp; done) | (simp; omega)) ?_)
    | (with_reducible refine And.intro (fin_el ?_) ?_)) <;> (conv => whnf))
  exact fin_1 [] (.bool_eq rfl) (objR_same (by simp) rfl rfl (by first | (simp; done) | exact idLt_map.2 (fun _ _ => by simp)))

/-- The same, beside another object. -/
theorem replan_Exclude_1.b (ms : List Bool) (hm : ms.length = 64) (x : Int) (h0 : 0 ≤ x ∧ x < 64) (o : AObj) {K E : Cont} (k : K (.bool (marked ms x)) [o, .cells (ms.map AV.bool) none]) :
    ACalls prog 22 [.int .i64 x, .ptr 1 0] [o, .cells (ms.map AV.bool) none] (andEnd K E) := by
  refine ACalls.useN (replan_Exclude_1.a ms hm x h0) [1] [] (by simp) (.cons (.int_eq rfl) (.cons (.ptr _ _ _ rfl) .nil)) ⟨(objR_same (by simp) rfl rfl (by first | (simp; done) | exact idLt_map.2 (fun _ _ => by simp))), trivial⟩ [.cells (ms.map AV.bool) none] (.bool (marked ms x)) (.bool_eq rfl) ⟨(objR_same (by simp) rfl rfl (by first | (simp; done) | exact idLt_map.2 (fun _ _ => by simp))), trivial⟩ ?_
  exact k

/-- The place of the first that is marked, or -1. -/
def fmark (ms : List Bool) : Nat → List Int → Int
  | _, [] => -1
  | k, y :: ys => if marked ms y then k else fmark ms (k + 1) ys

theorem fmark_none {ms : List Bool} {k : Nat} {l : List Int} (h : fmark ms k l = -1) : ∀ x ∈ l, marked ms x = false := by
  induction l generalizing k with
  | nil => intro x hx; simp at hx
  | cons y ys ih =>
    rw [fmark] at h
    split at h
    · omega
    · rename_i hy
      intro x hx
      rcases List.mem_cons.1 hx with rfl | hx
      · simpa using hy
      · exact ih h x hx
theorem fmark_some {ms : List Bool} {k : Nat} {l : List Int} (h : fmark ms k l ≠ -1) : ∃ i : Nat, i < l.length ∧ fmark ms k l = k + i ∧ marked ms (gt l i) = true ∧ ∀ x ∈ l.take i, marked ms x = false := by
  induction l generalizing k with
  | nil => simp [fmark] at h
  | cons y ys ih =>
    rw [fmark] at h ⊢
    split
    · rename_i hy
      exact ⟨0, by simp, by simp, by simpa [gt] using hy, by intro x hx; simp at hx⟩
    · rename_i hy
      rw [if_neg hy] at h
      obtain ⟨i, h1, h2, h3, h4⟩ := ih h
      refine ⟨i + 1, by simpa using h1, by rw [h2]; push_cast; omega, by simpa [gt] using h3, ?_⟩
      intro x hx
      rw [List.take_succ_cons] at hx
      rcases List.mem_cons.1 hx with rfl | hx
      · simpa using hy
      · exact h4 x hx

theorem slices_IndexFunc_int_int.a (l : List Int) (hl : Len l) (hr : ∀ x ∈ l, 0 ≤ x ∧ x < 64) (ms : List Bool) (hm : ms.length = 64) : ACalls prog 32 [.slice 0 0 l.length l.length, .fn (.func 22) [] [.ptr 1 0]] [.cells (l.map (AV.int .i64)) none, .cells (ms.map AV.bool) none]
    fun e h' => e = .ret (.int .i64 (fmark ms 0 l)) ∧ h' = [.cells (l.map (AV.int .i64)) none, .cells (ms.map AV.bool) none] := by
  refine acalls_of_vc slices_IndexFunc_int_int.k ?_
  conv => whnf
  have hB : hasBody prog 22 = true := by kernel_rfl
  repeat' ((first
    | (with_reducible refine hid_mk ?_)
    | (with_reducible refine bcase_not ?_)
    | (with_reducible refine bcase_true (by with_reducible assumption) ?_)
    | (with_reducible refine bcase_false (by with_reducible assumption) ?_)
    | (with_reducible refine bcase_dt (by omega) ?_)
    | (with_reducible refine bcase_df (by omega) ?_)
    | (with_reducible refine bcase_et (by omega) ?_)
    | (with_reducible refine bcase_ef (by omega) ?_)
    | (with_reducible refine bcase_nt (by omega) ?_)
    | (with_reducible refine bcase_nf (by omega) ?_)
    | (with_reducible refine bcase_dec (fun hb => ?_) (fun hb => ?_))
    | (with_reducible refine bcase_beq (fun hb => ?_) (fun hb => ?_))
    | (with_reducible refine bcase_bne (fun hb => ?_) (fun hb => ?_))
    | (with_reducible refine bcase_nbeq (fun hb => ?_) (fun hb => ?_))
    | (with_reducible refine bcase_mk (fun hb => ?_) (fun hb => ?_))
    | (with_reducible refine both_mk rfl ?_)
    | (with_reducible refine hx _ _ _ rfl ?_)
    | (with_reducible refine hx2 _ _ _ rfl ?_)
    | (with_reducible refine wnum_i64 (by omega) ?_)
    | (with_reducible refine wnum_u64 (by omega) ?_)
    | (with_reducible refine wnum_u8 (by omega) ?_)
    | (with_reducible refine wrem_nn (by omega) ?_)
    | (with_reducible refine wnum_mk ?_)
    | (with_reducible refine wfoc_mapc (by first | with_reducible assumption | omega | (simp; done) | (simp; omega)) ?_)
    | (with_reducible refine wfoc_map (by first | with_reducible assumption | omega | (simp; done) | (simp; omega)) ?_)
    | (with_reducible refine wfoc_flatc (by intro _; rfl) (by first | with_reducible assumption | omega | (simp; done) | (simp; omega)) ?_)
    | (with_reducible refine wfoc_flat (by intro _; rfl) (by first | with_reducible assumption | omega | (simp; done) | (simp; omega)) ?_)
    | (with_reducible refine wald_mapc (by first | with_reducible assumption | omega | (simp; done) | (simp; omega)) ?_)
    | (with_reducible refine wald_map (by first | with_reducible assumption | omega | (simp; done) | (simp; omega)) ?_)
    | (with_reducible refine wast_mapc rfl rfl (by first | with_reducible assumption | omega | (simp; done) | (simp; omega)) ?_)
    | (with_reducible refine wast_map rfl rfl (by first | with_reducible assumption | omega | (simp; done) | (simp; omega)) ?_)
    | (with_reducible refine wrep_int ?_)
    | (with_reducible refine wrep_bool ?_)
    | (with_reducible refine wrep_mk ?_)
    | (with_reducible refine wzero_lt (by omega) ?_)
    | (with_reducible refine wzero_eq (by omega) ?_)
    | (with_reducible refine wcut_all (by first | with_reducible assumption | omega | (simp; done) | (simp; omega)) ?_)
    | (with_reducible refine wcut_map ?_)
    | (with_reducible refine wcat_map (by first | with_reducible assumption | omega | (simp; done) | (simp; omega)) ?_)
    | (with_reducible refine wroom_grow (by omega) ?_)
    | (with_reducible refine wroom_in (by omega) ?_)
    | (refine wfoc_lit (by decide) rfl ?_)
    | (refine wald_lit rfl ?_)
    | (refine wast_lit rfl ?_)
    | (with_reducible refine wcut_lit ?_)
    | (refine wcat_lit rfl ?_)
    | (with_reducible refine ask_mk (by first | with_reducible assumption | omega | (simp; done) | (simp; omega) | (refine ⟨by first | omega | (simp; done) | (simp; omega), by first | rfl | (simp [AV.isCell]; done) | (simp; omega)⟩)) ?_)
    | (with_reducible refine fin_nle (by first | omega | (simp; done) | (simp; omega)))
    | (with_reducible refine fin_nat (by first | omega | (simp; done) | (simp; omega)))
    | (with_reducible refine And.intro (hid_mk (fun hb => ?_)) (hid_mk ?_))
    | (with_reducible refine And.intro (by first | with_reducible assumption | omega | (simp; done) | (simp; omega)) ?_)
    | (with_reducible refine And.intro (fin_el ?_) ?_)) <;> (conv => whnf))
  refine vloopW slices_IndexFunc_int_int.D0 (fun j : Nat => [(8, .int .i64 j)]) (fun _ => [.cells (l.map (AV.int .i64)) none, .cells (ms.map AV.bool) none]) (fun j => j ≤ l.length ∧ fmark ms 0 l = fmark ms j (l.drop j)) (fun j => l.length - j) 0 ?_ ?_ ?_ ?_
  · simp
  · rfl
  · (with_reducible refine wk_force ?_); (conv => whnf); (with_reducible refine hid_mk ?_); (repeat (first | with_reducible refine Wk.wild ?_ | refine Wk.cons (by first | with_reducible rfl | exact congrArg (AV.int _) (by first | rfl | omega | (simp; done) | (simp; omega)) | rfl | (simp; done)) ?_)); with_reducible exact Wk.nil
  rintro j ⟨h1, h2⟩ Q' hn hx
  conv => whnf
  have hs : j < l.length → fmark ms j (l.drop j) = if marked ms (gt l j) then (j : Int) else fmark ms (j + 1) (l.drop (j + 1)) := fun h => by rw [drop_gt h, fmark]
  have hg : j < l.length → 0 ≤ gt l j ∧ gt l j < 64 := fun h => hr _ (gt_mem h)
  repeat' ((first
    | (with_reducible refine hid_mk ?_)
    | (with_reducible refine bcase_not ?_)
    | (with_reducible refine bcase_true (by with_reducible assumption) ?_)
    | (with_reducible refine bcase_false (by with_reducible assumption) ?_)
    | (with_reducible refine bcase_dt (by omega) ?_)
    | (with_reducible refine bcase_df (by omega) ?_)
    | (with_reducible refine bcase_et (by omega) ?_)
    | (with_reducible refine bcase_ef (by omega) ?_)
    | (with_reducible refine bcase_nt (by omega) ?_)
    | (with_reducible refine bcase_nf (by omega) ?_)
    | (with_reducible refine bcase_dec (fun hb => ?_) (fun hb => ?_))
    | (with_reducible refine bcase_beq (fun hb => ?_) (fun hb => ?_))
    | (with_reducible refine bcase_bne (fun hb => ?_) (fun hb => ?_))
    | (with_reducible refine bcase_nbeq (fun hb => ?_) (fun hb => ?_))
    | (with_reducible refine bcase_mk (fun hb => ?_) (fun hb => ?_))
    | (with_reducible refine both_mk rfl ?_)
    | (with_reducible refine hx _ _ _ rfl ?_)
    | (with_reducible refine hx2 _ _ _ rfl ?_)
    | (refine replan_Exclude_1.b ms hm (gt l j) (hg (by omega)) _ ?_)
    | (with_reducible refine wnum_i64 (by omega) ?_)
    | (with_reducible refine wnum_u64 (by omega) ?_)
    | (with_reducible refine wnum_u8 (by omega) ?_)
    | (with_reducible refine wrem_nn (by omega) ?_)
    | (with_reducible refine wnum_mk ?_)
    | (with_reducible refine wfoc_mapc (by first | with_reducible assumption | omega | (simp; done) | (simp; omega)) ?_)
    | (with_reducible refine wfoc_map (by first | with_reducible assumption | omega | (simp; done) | (simp; omega)) ?_)
    | (with_reducible refine wfoc_flatc (by intro _; rfl) (by first | with_reducible assumption | omega | (simp; done) | (simp; omega)) ?_)
    | (with_reducible refine wfoc_flat (by intro _; rfl) (by first | with_reducible assumption | omega | (simp; done) | (simp; omega)) ?_)
    | (with_reducible refine wald_mapc (by first | with_reducible assumption | omega | (simp; done) | (simp; omega)) ?_)
    | (with_reducible refine wald_map (by first | with_reducible assumption | omega | (simp; done) | (simp; omega)) ?_)
    | (with_reducible refine wast_mapc rfl rfl (by first | with_reducible assumption | omega | (simp; done) | (simp; omega)) ?_)
    | (with_reducible refine wast_map rfl rfl (by first | with_reducible assumption | omega | (simp; done) | (simp; omega)) ?_)
    | (with_reducible refine wrep_int ?_)
    | (with_reducible refine wrep_bool ?_)
    | (with_reducible refine wrep_mk ?_)
    | (with_reducible refine wzero_lt (by omega) ?_)
    | (with_reducible refine wzero_eq (by omega) ?_)
    | (with_reducible refine wcut_all (by first | with_reducible assumption | omega | (simp; done) | (simp; omega)) ?_)
    | (with_reducible refine wcut_map ?_)
    | (with_reducible refine wcat_map (by first | with_reducible assumption | omega | (simp; done) | (simp; omega)) ?_)
    | (with_reducible refine wroom_grow (by omega) ?_)
    | (with_reducible refine wroom_in (by omega) ?_)
    | (refine wfoc_lit (by decide) rfl ?_)
    | (refine wald_lit rfl ?_)
    | (refine wast_lit rfl ?_)
    | (with_reducible refine wcut_lit ?_)
    | (refine wcat_lit rfl ?_)
    | (with_reducible refine ask_mk (by first | with_reducible assumption | omega | (simp; done) | (simp; omega) | (refine ⟨by first | omega | (simp; done) | (simp; omega), by first | rfl | (simp [AV.isCell]; done) | (simp; omega)⟩)) ?_)
    | (with_reducible refine fin_nle (by first | omega | (simp; done) | (simp; omega)))
    | (with_reducible refine fin_nat (by first | omega | (simp; done) | (simp; omega)))
    | (with_reducible refine And.intro (hid_mk (fun hb => ?_)) (hid_mk ?_))
    | (with_reducible refine And.intro (by first | with_reducible assumption | omega | (simp; done) | (simp; omega)) ?_)
    | (with_reducible refine And.intro (fin_el ?_) ?_)) <;> (conv => whnf))
  · refine fin_2 [] (.int_eq ?_) (objR_same (by simp) rfl rfl (by first | (simp; done) | exact idLt_map.2 (fun _ _ => by simp))) (objR_same (by simp) rfl rfl (by first | (simp; done) | exact idLt_map.2 (fun _ _ => by simp)))
    rw [h2, hs (by omega), if_pos ‹marked ms (gt l j) = true›]
  · refine hn (j + 1) ⟨by omega, ?_⟩ (by omega) _ _ (.inl ⟨rfl, ?_⟩)
    · rw [h2, hs (by omega), if_neg (by simp [‹marked ms (gt l j) = false›])]
    · (with_reducible refine wk_force ?_); (conv => whnf); (with_reducible refine hid_mk ?_); (repeat (first | with_reducible refine Wk.wild ?_ | refine Wk.cons (by first | with_reducible rfl | exact congrArg (AV.int _) (by first | rfl | omega | (simp; done) | (simp; omega)) | rfl | (simp; done)) ?_)); with_reducible exact Wk.nil
  · refine fin_2 [] (.int_eq ?_) (objR_same (by simp) rfl rfl (by first | (simp; done) | exact idLt_map.2 (fun _ _ => by simp))) (objR_same (by simp) rfl rfl (by first | (simp; done) | exact idLt_map.2 (fun _ _ => by simp)))
    rw [h2, List.drop_of_length_le (by omega), fmark]

/-- Those that are not marked. -/
def kept (ms : List Bool) (l : List Int) : List Int := l.filter fun x => !marked ms x
theorem kept_le (ms : List Bool) (l : List Int) : (kept ms l).length ≤ l.length := List.length_filter_le _ _
theorem kept_take (ms : List Bool) (l : List Int) {j : Nat} (h : j < l.length) : kept ms (l.take (j + 1)) = if marked ms (gt l j) then kept ms (l.take j) else kept ms (l.take j) ++ [gt l j] := by
  rw [take_gt h, kept, List.filter_append]
  cases hm : marked ms (gt l j) <;> simp [kept, hm]

theorem slices_DeleteFunc_int_int.a (l : List Int) (hl : Len l) (hr : ∀ x ∈ l, 0 ≤ x ∧ x < 64) (ms : List Bool) (hm : ms.length = 64) : ACalls prog 21 [.slice 0 0 l.length l.length, .fn (.func 22) [] [.ptr 1 0]] [.cells (l.map (AV.int .i64)) none, .cells (ms.map AV.bool) none]
    fun e h' => e = .ret (.slice 0 0 (kept ms l).length l.length) ∧ h' = [.cells ((kept ms l ++ List.replicate (l.length - (kept ms l).length) 0).map (AV.int .i64)) none, .cells (ms.map AV.bool) none] := by
  refine acalls_of_vc slices_DeleteFunc_int_int.k ?_
  conv => whnf
  have hB : hasBody prog 22 = true := by kernel_rfl
  have hI := slices_IndexFunc_int_int.a l hl hr ms hm
  by_cases hf : fmark ms 0 l = -1
  · have hk : kept ms l = l := List.filter_eq_self.2 fun x hx => by simp [fmark_none hf x hx]
    repeat' ((first
    | (with_reducible refine hid_mk ?_)
    | (with_reducible refine bcase_not ?_)
    | (with_reducible refine bcase_true (by with_reducible assumption) ?_)
    | (with_reducible refine bcase_false (by with_reducible assumption) ?_)
    | (with_reducible refine bcase_dt (by omega) ?_)
    | (with_reducible refine bcase_df (by omega) ?_)
    | (with_reducible refine bcase_et (by omega) ?_)
    | (with_reducible refine bcase_ef (by omega) ?_)
    | (with_reducible refine bcase_nt (by omega) ?_)
    | (with_reducible refine bcase_nf (by omega) ?_)
    | (with_reducible refine bcase_dec (fun hb => ?_) (fun hb => ?_))
    | (with_reducible refine bcase_beq (fun hb => ?_) (fun hb => ?_))
    | (with_reducible refine bcase_bne (fun hb => ?_) (fun hb => ?_))
    | (with_reducible refine bcase_nbeq (fun hb => ?_) (fun hb => ?_))
    | (with_reducible refine bcase_mk (fun hb => ?_) (fun hb => ?_))
    | (with_reducible refine both_mk rfl ?_)
    | (with_reducible refine hx _ _ _ rfl ?_)
    | (with_reducible refine hx2 _ _ _ rfl ?_)
    | (with_reducible refine ACalls.use (hI) ?_)
    | (with_reducible refine wnum_i64 (by omega) ?_)
    | (with_reducible refine wnum_u64 (by omega) ?_)
    | (with_reducible refine wnum_u8 (by omega) ?_)
    | (with_reducible refine wrem_nn (by omega) ?_)
    | (with_reducible refine wnum_mk ?_)
    | (with_reducible refine wfoc_mapc (by first | with_reducible assumption | omega | (simp; done) | (simp; omega)) ?_)
    | (with_reducible refine wfoc_map (by first | with_reducible assumption | omega | (simp; done) | (simp; omega)) ?_)
    | (with_reducible refine wfoc_flatc (by intro _; rfl) (by first | with_reducible assumption | omega | (simp; done) | (simp; omega)) ?_)
    | (with_reducible refine wfoc_flat (by intro _; rfl) (by first | with_reducible assumption | omega | (simp; done) | (simp; omega)) ?_)
    | (with_reducible refine wald_mapc (by first | with_reducible assumption | omega | (simp; done) | (simp; omega)) ?_)
    | (with_reducible refine wald_map (by first | with_reducible assumption | omega | (simp; done) | (simp; omega)) ?_)
    | (with_reducible refine wast_mapc rfl rfl (by first | with_reducible assumption | omega | (simp; done) | (simp; omega)) ?_)
    | (with_reducible refine wast_map rfl rfl (by first | with_reducible assumption | omega | (simp; done) | (simp; omega)) ?_)
    | (with_reducible refine wrep_int ?_)
    | (with_reducible refine wrep_bool ?_)
    | (with_reducible refine wrep_mk ?_)
    | (with_reducible refine wzero_lt (by omega) ?_)
    | (with_reducible refine wzero_eq (by omega) ?_)
    | (with_reducible refine wcut_all (by first | with_reducible assumption | omega | (simp; done) | (simp; omega)) ?_)
    | (with_reducible refine wcut_map ?_)
    | (with_reducible refine wcat_map (by first | with_reducible assumption | omega | (simp; done) | (simp; omega)) ?_)
    | (with_reducible refine wroom_grow (by omega) ?_)
    | (with_reducible refine wroom_in (by omega) ?_)
    | (refine wfoc_lit (by decide) rfl ?_)
    | (refine wald_lit rfl ?_)
    | (refine wast_lit rfl ?_)
    | (with_reducible refine wcut_lit ?_)
    | (refine wcat_lit rfl ?_)
    | (with_reducible refine ask_mk (by first | with_reducible assumption | omega | (simp; done) | (simp; omega) | (refine ⟨by first | omega | (simp; done) | (simp; omega), by first | rfl | (simp [AV.isCell]; done) | (simp; omega)⟩)) ?_)
    | (with_reducible refine fin_nle (by first | omega | (simp; done) | (simp; omega)))
    | (with_reducible refine fin_nat (by first | omega | (simp; done) | (simp; omega)))
    | (with_reducible refine And.intro (hid_mk (fun hb => ?_)) (hid_mk ?_))
    | (with_reducible refine And.intro (by first | with_reducible assumption | omega | (simp; done) | (simp; omega)) ?_)
    | (with_reducible refine And.intro (fin_el ?_) ?_)) <;> (conv => whnf))
    refine fin_2 [] ?_ (objR_same (by simp) rfl (by simp [hk]) (by first | (simp; done) | exact idLt_map.2 (fun _ _ => by simp))) (objR_same (by simp) rfl rfl (by first | (simp; done) | exact idLt_map.2 (fun _ _ => by simp)))
    rw [hk]
    exact .slice _ _ _ _ _ rfl
  · obtain ⟨i, hi, hfi, hmi, hti⟩ := fmark_some hf
    replace hfi : fmark ms 0 l = (i : Int) := by simpa using hfi
    have hk0 : kept ms (l.take i) = l.take i := List.filter_eq_self.2 fun x hx => by simp [hti x hx]
    have hk1 : kept ms (l.take (i + 1)) = l.take i := by rw [kept_take ms l hi, if_pos hmi, hk0]
    have hg : ∀ j, j < l.length → 0 ≤ gt l j ∧ gt l j < 64 := fun j h => hr _ (gt_mem h)
    repeat' ((first
    | (with_reducible refine hid_mk ?_)
    | (with_reducible refine bcase_not ?_)
    | (with_reducible refine bcase_true (by with_reducible assumption) ?_)
    | (with_reducible refine bcase_false (by with_reducible assumption) ?_)
    | (with_reducible refine bcase_dt (by omega) ?_)
    | (with_reducible refine bcase_df (by omega) ?_)
    | (with_reducible refine bcase_et (by omega) ?_)
    | (with_reducible refine bcase_ef (by omega) ?_)
    | (with_reducible refine bcase_nt (by omega) ?_)
    | (with_reducible refine bcase_nf (by omega) ?_)
    | (with_reducible refine bcase_dec (fun hb => ?_) (fun hb => ?_))
    | (with_reducible refine bcase_beq (fun hb => ?_) (fun hb => ?_))
    | (with_reducible refine bcase_bne (fun hb => ?_) (fun hb => ?_))
    | (with_reducible refine bcase_nbeq (fun hb => ?_) (fun hb => ?_))
    | (with_reducible refine bcase_mk (fun hb => ?_) (fun hb => ?_))
    | (with_reducible refine both_mk rfl ?_)
    | (with_reducible refine hx _ _ _ rfl ?_)
    | (with_reducible refine hx2 _ _ _ rfl ?_)
    | (with_reducible refine ACalls.use (hI) ?_)
    | (with_reducible refine wnum_i64 (by omega) ?_)
    | (with_reducible refine wnum_u64 (by omega) ?_)
    | (with_reducible refine wnum_u8 (by omega) ?_)
    | (with_reducible refine wrem_nn (by omega) ?_)
    | (with_reducible refine wnum_mk ?_)
    | (with_reducible refine wfoc_mapc (by first | with_reducible assumption | omega | (simp; done) | (simp; omega)) ?_)
    | (with_reducible refine wfoc_map (by first | with_reducible assumption | omega | (simp; done) | (simp; omega)) ?_)
    | (with_reducible refine wfoc_flatc (by intro _; rfl) (by first | with_reducible assumption | omega | (simp; done) | (simp; omega)) ?_)
    | (with_reducible refine wfoc_flat (by intro _; rfl) (by first | with_reducible assumption | omega | (simp; done) | (simp; omega)) ?_)
    | (with_reducible refine wald_mapc (by first | with_reducible assumption | omega | (simp; done) | (simp; omega)) ?_)
    | (with_reducible refine wald_map (by first | with_reducible assumption | omega | (simp; done) | (simp; omega)) ?_)
    | (with_reducible refine wast_mapc rfl rfl (by first | with_reducible assumption | omega | (simp; done) | (simp; omega)) ?_)
    | (with_reducible refine wast_map rfl rfl (by first | with_reducible assumption | omega | (simp; done) | (simp; omega)) ?_)
    | (with_reducible refine wrep_int ?_)
    | (with_reducible refine wrep_bool ?_)
    | (with_reducible refine wrep_mk ?_)
    | (with_reducible refine wzero_lt (by omega) ?_)
    | (with_reducible refine wzero_eq (by omega) ?_)
    | (with_reducible refine wcut_all (by first | with_reducible assumption | omega | (simp; done) | (simp; omega)) ?_)
    | (with_reducible refine wcut_map ?_)
    | (with_reducible refine wcat_map (by first | with_reducible assumption | omega | (simp; done) | (simp; omega)) ?_)
    | (with_reducible refine wroom_grow (by omega) ?_)
    | (with_reducible refine wroom_in (by omega) ?_)
    | (refine wfoc_lit (by decide) rfl ?_)
    | (refine wald_lit rfl ?_)
    | (refine wast_lit rfl ?_)
    | (with_reducible refine wcut_lit ?_)
    | (refine wcat_lit rfl ?_)
    | (with_reducible refine ask_mk (by first | with_reducible assumption | omega | (simp; done) | (simp; omega) | (refine ⟨by first | omega | (simp; done) | (simp; omega), by first | rfl | (simp [AV.isCell]; done) | (simp; omega)⟩)) ?_)
    | (with_reducible refine fin_nle (by first | omega | (simp; done) | (simp; omega)))
    | (with_reducible refine fin_nat (by first | omega | (simp; done) | (simp; omega)))
    | (with_reducible refine And.intro (hid_mk (fun hb => ?_)) (hid_mk ?_))
    | (with_reducible refine And.intro (by first | with_reducible assumption | omega | (simp; done) | (simp; omega)) ?_)
    | (with_reducible refine And.intro (fin_el ?_) ?_)) <;> (conv => whnf))
    refine vloopW slices_DeleteFunc_int_int.D0 (fun j : Nat => [(6, .int .i64 j), (5, .int .i64 (kept ms (l.take j)).length)]) (fun j => [.cells ((kept ms (l.take j) ++ l.drop (kept ms (l.take j)).length).map (AV.int .i64)) none, .cells (ms.map AV.bool) none]) (fun j => i < j ∧ j ≤ l.length ∧ (kept ms (l.take j)).length < j) (fun j => l.length - j) (i + 1) ?_ ?_ ?_ ?_
    · refine ⟨by omega, by omega, ?_⟩
      rw [hk1]; simp; omega
    · rw [hk1]; simp [Nat.min_eq_left (Nat.le_of_lt hi)]
    · rw [hk1]
      (with_reducible refine wk_force ?_); (conv => whnf); (with_reducible refine hid_mk ?_); (repeat (first | with_reducible refine Wk.wild ?_ | refine Wk.cons (by first | with_reducible rfl | exact congrArg (AV.int _) (by first | rfl | omega | (simp; done) | (simp; omega)) | rfl | (simp; done)) ?_)); with_reducible exact Wk.nil
    rintro j ⟨h1, h2, h3⟩ Q' hn hx
    conv => whnf
    generalize hA : kept ms (l.take j) ++ l.drop (kept ms (l.take j)).length = A
    have hAl : A.length = l.length := by rw [← hA]; simp; omega
    have hAj : j < l.length → gt A j = gt l j := fun h => by rw [← hA, gt_app, if_neg (by omega), gt_drop]; congr 1; omega
    have hAs : j < l.length → marked ms (gt l j) = false → A.set (kept ms (l.take j)).length (gt l j) = kept ms (l.take (j + 1)) ++ l.drop (kept ms (l.take (j + 1))).length := by
      intro h hm'
      rw [kept_take ms l h, if_neg (by simp [hm']), ← hA, List.set_append_right _ _ (Nat.le_refl _), Nat.sub_self, drop_gt (l := l) (by omega), List.set_cons_zero, List.length_append, List.length_singleton, List.append_assoc]; rfl
    repeat' ((first
    | (with_reducible refine hid_mk ?_)
    | (with_reducible refine bcase_not ?_)
    | (with_reducible refine bcase_true (by with_reducible assumption) ?_)
    | (with_reducible refine bcase_false (by with_reducible assumption) ?_)
    | (with_reducible refine bcase_dt (by omega) ?_)
    | (with_reducible refine bcase_df (by omega) ?_)
    | (with_reducible refine bcase_et (by omega) ?_)
    | (with_reducible refine bcase_ef (by omega) ?_)
    | (with_reducible refine bcase_nt (by omega) ?_)
    | (with_reducible refine bcase_nf (by omega) ?_)
    | (with_reducible refine bcase_dec (fun hb => ?_) (fun hb => ?_))
    | (with_reducible refine bcase_beq (fun hb => ?_) (fun hb => ?_))
    | (with_reducible refine bcase_bne (fun hb => ?_) (fun hb => ?_))
    | (with_reducible refine bcase_nbeq (fun hb => ?_) (fun hb => ?_))
    | (with_reducible refine bcase_mk (fun hb => ?_) (fun hb => ?_))
    | (with_reducible refine both_mk rfl ?_)
    | (with_reducible refine hx _ _ _ rfl ?_)
    | (with_reducible refine hx2 _ _ _ rfl ?_)
    | (rw [hAj (by omega)]; refine replan_Exclude_1.b ms hm (gt l j) (hg j (by omega)) _ ?_)
    | (with_reducible refine wnum_i64 (by omega) ?_)
    | (with_reducible refine wnum_u64 (by omega) ?_)
    | (with_reducible refine wnum_u8 (by omega) ?_)
    | (with_reducible refine wrem_nn (by omega) ?_)
    | (with_reducible refine wnum_mk ?_)
    | (with_reducible refine wfoc_mapc (by first | with_reducible assumption | omega | (simp; done) | (simp; omega)) ?_)
    | (with_reducible refine wfoc_map (by first | with_reducible assumption | omega | (simp; done) | (simp; omega)) ?_)
    | (with_reducible refine wfoc_flatc (by intro _; rfl) (by first | with_reducible assumption | omega | (simp; done) | (simp; omega)) ?_)
    | (with_reducible refine wfoc_flat (by intro _; rfl) (by first | with_reducible assumption | omega | (simp; done) | (simp; omega)) ?_)
    | (with_reducible refine wald_mapc (by first | with_reducible assumption | omega | (simp; done) | (simp; omega)) ?_)
    | (with_reducible refine wald_map (by first | with_reducible assumption | omega | (simp; done) | (simp; omega)) ?_)
    | (with_reducible refine wast_mapc rfl rfl (by first | with_reducible assumption | omega | (simp; done) | (simp; omega)) ?_)
    | (with_reducible refine wast_map rfl rfl (by first | with_reducible assumption | omega | (simp; done) | (simp; omega)) ?_)
    | (with_reducible refine wrep_int ?_)
    | (with_reducible refine wrep_bool ?_)
    | (with_reducible refine wrep_mk ?_)
    | (with_reducible refine wzero_lt (by omega) ?_)
    | (with_reducible refine wzero_eq (by omega) ?_)
    | (with_reducible refine wcut_all (by first | with_reducible assumption | omega | (simp; done) | (simp; omega)) ?_)
    | (with_reducible refine wcut_map ?_)
    | (with_reducible refine wcat_map (by first | with_reducible assumption | omega | (simp; done) | (simp; omega)) ?_)
    | (with_reducible refine wroom_grow (by omega) ?_)
    | (with_reducible refine wroom_in (by omega) ?_)
    | (refine wfoc_lit (by decide) rfl ?_)
    | (refine wald_lit rfl ?_)
    | (refine wast_lit rfl ?_)
    | (with_reducible refine wcut_lit ?_)
    | (refine wcat_lit rfl ?_)
    | (with_reducible refine ask_mk (by first | with_reducible assumption | omega | (simp; done) | (simp; omega) | (refine ⟨by first | omega | (simp; done) | (simp; omega), by first | rfl | (simp [AV.isCell]; done) | (simp; omega)⟩)) ?_)
    | (with_reducible refine fin_nle (by first | omega | (simp; done) | (simp; omega)))
    | (with_reducible refine fin_nat (by first | omega | (simp; done) | (simp; omega)))
    | (with_reducible refine And.intro (hid_mk (fun hb => ?_)) (hid_mk ?_))
    | (with_reducible refine And.intro (by first | with_reducible assumption | omega | (simp; done) | (simp; omega)) ?_)
    | (with_reducible refine And.intro (fin_el ?_) ?_)) <;> (conv => whnf))
    · have hk := kept_take ms l (j := j) (by omega)
      rw [if_pos ‹marked ms (gt l j) = true›] at hk
      refine hn (j + 1) ⟨by omega, by omega, by rw [hk]; omega⟩ (by omega) _ _ (.inl ⟨?_, ?_⟩)
      · simp only [hk, hA]
      · have hkl : (kept ms (l.take (j + 1))).length = (kept ms (l.take j)).length := by rw [hk]
        (with_reducible refine wk_force ?_); (conv => whnf); (with_reducible refine hid_mk ?_); (repeat (first | with_reducible refine Wk.wild ?_ | refine Wk.cons (by first | with_reducible rfl | exact congrArg (AV.int _) (by first | rfl | omega | (simp; done) | (simp; omega)) | rfl | (simp; done)) ?_)); with_reducible exact Wk.nil
    · have hk := kept_take ms l (j := j) (by omega)
      rw [if_neg (by simp [‹marked ms (gt l j) = false›])] at hk
      refine hn (j + 1) ⟨by omega, by omega, by rw [hk]; simp; omega⟩ (by omega) _ _ (.inl ⟨?_, ?_⟩)
      · rw [hAs (by omega) ‹marked ms (gt l j) = false›]
      · have hkl : (kept ms (l.take (j + 1))).length = (kept ms (l.take j)).length + 1 := by rw [hk, List.length_append, List.length_singleton]
        (with_reducible refine wk_force ?_); (conv => whnf); (with_reducible refine hid_mk ?_); (repeat (first | with_reducible refine Wk.wild ?_ | refine Wk.cons (by first | with_reducible rfl | exact congrArg (AV.int _) (by first | rfl | omega | (simp; done) | (simp; omega)) | rfl | (simp; done)) ?_)); with_reducible exact Wk.nil
    · obtain rfl : j = l.length := by omega
      rw [List.take_length] at *
      have hkl := kept_le ms l
      refine wput_tailE (List.replicate (l.length - (kept ms l).length) 0) (kept ms l).length (by simp) (by omega) (repl_map (by omega)) (by simp [hAl]) ?_
      have hAt : A.take (kept ms l).length = kept ms l := by rw [← hA, List.take_left]
      rw [hAt]
      conv => whnf
      repeat' ((first
    | (with_reducible refine hid_mk ?_)
    | (with_reducible refine bcase_not ?_)
    | (with_reducible refine bcase_true (by with_reducible assumption) ?_)
    | (with_reducible refine bcase_false (by with_reducible assumption) ?_)
    | (with_reducible refine bcase_dt (by omega) ?_)
    | (with_reducible refine bcase_df (by omega) ?_)
    | (with_reducible refine bcase_et (by omega) ?_)
    | (with_reducible refine bcase_ef (by omega) ?_)
    | (with_reducible refine bcase_nt (by omega) ?_)
    | (with_reducible refine bcase_nf (by omega) ?_)
    | (with_reducible refine bcase_dec (fun hb => ?_) (fun hb => ?_))
    | (with_reducible refine bcase_beq (fun hb => ?_) (fun hb => ?_))
    | (with_reducible refine bcase_bne (fun hb => ?_) (fun hb => ?_))
    | (with_reducible refine bcase_nbeq (fun hb => ?_) (fun hb => ?_))
    | (with_reducible refine bcase_mk (fun hb => ?_) (fun hb => ?_))
    | (with_reducible refine both_mk rfl ?_)
    | (with_reducible refine hx _ _ _ rfl ?_)
    | (with_reducible refine hx2 _ _ _ rfl ?_)
    | (with_reducible refine wnum_i64 (by omega) ?_)
    | (with_reducible refine wnum_u64 (by omega) ?_)
    | (with_reducible refine wnum_u8 (by omega) ?_)
    | (with_reducible refine wrem_nn (by omega) ?_)
    | (with_reducible refine wnum_mk ?_)
    | (with_reducible refine wfoc_mapc (by first | with_reducible assumption | omega | (simp; done) | (simp; omega)) ?_)
    | (with_reducible refine wfoc_map (by first | with_reducible assumption | omega | (simp; done) | (simp; omega)) ?_)
    | (with_reducible refine wfoc_flatc (by intro _; rfl) (by first | with_reducible assumption | omega | (simp; done) | (simp; omega)) ?_)
    | (with_reducible refine wfoc_flat (by intro _; rfl) (by first | with_reducible assumption | omega | (simp; done) | (simp; omega)) ?_)
    | (with_reducible refine wald_mapc (by first | with_reducible assumption | omega | (simp; done) | (simp; omega)) ?_)
    | (with_reducible refine wald_map (by first | with_reducible assumption | omega | (simp; done) | (simp; omega)) ?_)
    | (with_reducible refine wast_mapc rfl rfl (by first | with_reducible assumption | omega | (simp; done) | (simp; omega)) ?_)
    | (with_reducible refine wast_map rfl rfl (by first | with_reducible assumption | omega | (simp; done) | (simp; omega)) ?_)
    | (with_reducible refine wrep_int ?_)
    | (with_reducible refine wrep_bool ?_)
    | (with_reducible refine wrep_mk ?_)
    | (with_reducible refine wzero_lt (by omega) ?_)
    | (with_reducible refine wzero_eq (by omega) ?_)
    | (with_reducible refine wcut_all (by first | with_reducible assumption | omega | (simp; done) | (simp; omega)) ?_)
    | (with_reducible refine wcut_map ?_)
    | (with_reducible refine wcat_map (by first | with_reducible assumption | omega | (simp; done) | (simp; omega)) ?_)
    | (with_reducible refine wroom_grow (by omega) ?_)
    | (with_reducible refine wroom_in (by omega) ?_)
    | (refine wfoc_lit (by decide) rfl ?_)
    | (refine wald_lit rfl ?_)
    | (refine wast_lit rfl ?_)
    | (with_reducible refine wcut_lit ?_)
    | (refine wcat_lit rfl ?_)
    | (with_reducible refine ask_mk (by first | with_reducible assumption | omega | (simp; done) | (simp; omega) | (refine ⟨by first | omega | (simp; done) | (simp; omega), by first | rfl | (simp [AV.isCell]; done) | (simp; omega)⟩)) ?_)
    | (with_reducible refine fin_nle (by first | omega | (simp; done) | (simp; omega)))
    | (with_reducible refine fin_nat (by first | omega | (simp; done) | (simp; omega)))
    | (with_reducible refine And.intro (hid_mk (fun hb => ?_)) (hid_mk ?_))
    | (with_reducible refine And.intro (by first | with_reducible assumption | omega | (simp; done) | (simp; omega)) ?_)
    | (with_reducible refine And.intro (fin_el ?_) ?_)) <;> (conv => whnf))
      refine fin_2 [] ?_ (objR_same (by simp) rfl rfl (by first | (simp; done) | exact idLt_map.2 (fun _ _ => by simp))) (objR_same (by simp) rfl rfl (by first | (simp; done) | exact idLt_map.2 (fun _ _ => by simp)))
      have e1 : ((kept ms l).length : Int) - 0 = (kept ms l).length := by omega
      have := Rs.slice (h := [.cells ((kept ms l ++ List.replicate (l.length - (kept ms l).length) 0).map (AV.int .i64)) none, .cells (ms.map AV.bool) none]) (N := [0, 1]) (F := []) 0 0 0 (kept ms l).length l.length rfl
      simpa using this

/-- The marks of numbers from 0 to 63. -/
def marksOf (l : List Int) : List Bool := (List.range 64).map fun i : Nat => l.contains (i : Int)
theorem marksOf_length (l : List Int) : (marksOf l).length = 64 := by simp [marksOf]
theorem marked_marksOf (l : List Int) (x : Int) (h : 0 ≤ x ∧ x < 64) : marked (marksOf l) x = l.contains x := by
  have hx : x.toNat < 64 := by omega
  simp only [marked, gt, marksOf, List.getD_eq_getElem?_getD, List.getElem?_map, List.getElem?_range hx, Option.map_some, Option.getD_some]
  congr 1; omega
theorem marksOf_snoc (l : List Int) (x : Int) (h : 0 ≤ x ∧ x < 64) : (marksOf l).set x.toNat true = marksOf (l ++ [x]) := by
  apply List.ext_getElem?
  intro j
  have hx : x.toNat < 64 := by omega
  rw [List.getElem?_set, marksOf_length]
  by_cases hj : j < 64
  · by_cases e : x.toNat = j
    · rw [if_pos e, if_pos hx]
      simp only [marksOf, List.getElem?_map, List.getElem?_range hj, Option.map_some, Option.some.injEq]
      have : (j : Int) = x := by omega
      simp [this]
    · rw [if_neg e]
      simp only [marksOf, List.getElem?_map, List.getElem?_range hj, Option.map_some, Option.some.injEq]
      have : (j : Int) ≠ x := by omega
      simp [this]
  · rw [if_neg (by omega)]
    simp [marksOf, hj]
theorem marksOf_skip (l : List Int) (x : Int) (h : ¬ (0 ≤ x ∧ x < 64)) : marksOf (l ++ [x]) = marksOf l := by
  refine List.map_congr_left fun j hj => ?_
  have := List.mem_range.1 hj
  have : (j : Int) ≠ x := by omega
  simp [this]

end Go.Proofs.Ytbalpmdoeikkbaa.C
