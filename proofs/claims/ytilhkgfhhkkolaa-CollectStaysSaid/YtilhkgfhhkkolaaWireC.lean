/- Elements of a field, and lists of them as bytes. -/
import Derived.Test.YtilhkgfhhkkolaaWireB
namespace Go.Proofs.Ytilhkgfhhkkolaa.C
open Go Go.RowKit Go.Proofs.Ytilhkgfhhkkolaa.AL
set_option maxRecDepth 100000
set_option maxHeartbeats 40000000
set_option linter.unusedVariables false
set_option linter.unusedSimpArgs false

/-- The prime of a field; 0: it is none. -/
def pF (f : Int) : Int := if f = 1 then 2013265921 else if f = 2 then 18446744069414584321 else 0
theorem pF_cases (f : Int) : (f = 1 ∧ pF f = 2013265921) ∨ (f = 2 ∧ pF f = 18446744069414584321) ∨ (f ≠ 1 ∧ f ≠ 2 ∧ pF f = 0) := by
  unfold pF
  by_cases h1 : f = 1
  · simp [h1]
  · by_cases h2 : f = 2
    · simp [h2]
    · simp [h1, h2]
/-- Are they elements of a field? -/
def inB (f : Int) (l : List Int) : Bool := decide (pF f ≠ 0) && l.all fun x => decide (x < pF f)
theorem all_gt {l : List Int} {p : Int} (h : ∀ i, i < l.length → gt l i < p) : (l.all fun x => decide (x < p)) = true := by
  rw [List.all_eq_true]
  intro x hx
  obtain ⟨i, hi, rfl⟩ := List.mem_iff_getElem.1 hx
  have := h i hi
  rw [gt_eq hi] at this
  exact decide_eq_true this
theorem all_not {l : List Int} {p : Int} {i : Nat} (hi : i < l.length) (h : p ≤ gt l i) : (l.all fun x => decide (x < p)) = false := by
  rw [Bool.eq_false_iff]
  intro q
  rw [List.all_eq_true] at q
  have := of_decide_eq_true (q _ (gt_mem hi))
  omega
theorem inB_lt {f : Int} {l : List Int} (h : inB f l = true) {i : Nat} (hi : i < l.length) : gt l i < pF f := by
  simp only [inB, Bool.and_eq_true, List.all_eq_true] at h
  exact of_decide_eq_true (h.2 _ (gt_mem hi))
theorem inB_ne {f : Int} {l : List Int} (h : inB f l = true) : f = 1 ∨ f = 2 := by
  simp only [inB, Bool.and_eq_true, decide_eq_true_eq] at h
  rcases pF_cases f with q | q | q
  · exact .inl q.1
  · exact .inr q.1
  · exact absurd q.2.2 h.1

theorem ref01_P.a (f : Int) : Pure prog 34 [.int .u8 f] (.int .u64 (pF f)) := by
  refine pure_of_vc ref01_P.k (by simp) ?_
  conv => whnf
  repeat' ((first | (with_reducible refine hid_mk ?_) | (with_reducible refine bcase_beq (fun hb => ?_) (fun hb => ?_)) | (with_reducible refine vblk_same ?_)) <;> (conv => whnf))
  all_goals exact fin_pure (by simp [pF, *]) (by simp)

theorem ref01_In.a (f : Int) (l : List Int) (hl : l.length ≤ 17592186043904) : Pure prog 21 [.int .u8 f, u64s l] (.bool (inB f l)) := by
  refine pure_of_vc ref01_In.k (by simp) ?_
  conv => whnf
  repeat' ((first | (with_reducible refine hid_mk ?_) | (with_reducible refine Pure.use (ref01_P.a f) ?_) | (with_reducible refine vblk_same ?_)) <;> (conv => whnf))
  refine vloopW ref01_In.D0 (fun k : Nat => [(6, .int .i64 k)]) (fun _ => []) (fun k => k ≤ l.length ∧ ∀ i, i < k → gt l i < pF f) (fun k => l.length - k) 0 (by simp) rfl ?_ ?_
  · (with_reducible refine wk_force ?_); (conv => whnf); (with_reducible refine hid_mk ?_); (repeat (first | with_reducible refine Wk.wild ?_ | refine Wk.cons (by first | with_reducible rfl | exact congrArg (AV.int _) (by first | rfl) | fail) ?_)); with_reducible exact Wk.nil
  rintro k ⟨h1, h2⟩ Q' hn hx
  conv => whnf
  repeat' ((first | (with_reducible refine hid_mk ?_) | (with_reducible refine bcase_dec (fun hb => ?_) (fun hb => ?_)) | (with_reducible refine hx _ _ _ rfl ?_) | (with_reducible refine vblk_same ?_) | (with_reducible refine wnum_i64 (by omega) ?_) | (with_reducible refine wfoc_mapc (by first | omega) ?_) | (with_reducible refine And.intro (by first | with_reducible assumption | omega) ?_)) <;> (conv => whnf))
  · exact fin_pure (by rw [inB, all_not (i := k) (by omega) (by omega)]; simp) (by simp)
  · exact hn (k + 1) ⟨by omega, fun i hi => by by_cases e : i = k; (subst e; omega); exact h2 i (by omega)⟩ (by omega) _ _ (.inl ⟨rfl, by (with_reducible refine wk_force ?_); (conv => whnf); (with_reducible refine hid_mk ?_); (repeat (first | with_reducible refine Wk.wild ?_ | refine Wk.cons (by first | with_reducible rfl | exact congrArg (AV.int _) (by first | rfl) | fail) ?_)); with_reducible exact Wk.nil⟩)
  · exact fin_pure (by rw [inB, all_gt (fun i hi => h2 i (by omega)), Bool.and_true]; by_cases q : pF f = 0 <;> simp [q]) (by simp)

theorem field_reckoner_in.a (p : Int) (w : Bool) (l : List Int) (hl : l.length ≤ 17592186043904) : Pure prog 56 [.agg [.int .u64 p, .bool w], u64s l] (.bool (l.all fun x => decide (x < p))) := by
  refine pure_of_vc field_reckoner_in.k (by simp) ?_
  conv => whnf
  repeat' ((first | (with_reducible refine hid_mk ?_) | (with_reducible refine vblk_same ?_)) <;> (conv => whnf))
  refine vloopW field_reckoner_in.D0 (fun k : Nat => [(9, .int .i64 k)]) (fun _ => [.cells [.int .u64 p, .bool w] none]) (fun k => k ≤ l.length ∧ ∀ i, i < k → gt l i < p) (fun k => l.length - k) 0 (by simp) rfl ?_ ?_
  · (with_reducible refine wk_force ?_); (conv => whnf); (with_reducible refine hid_mk ?_); (repeat (first | with_reducible refine Wk.wild ?_ | refine Wk.cons (by first | with_reducible rfl | exact congrArg (AV.int _) (by first | rfl) | fail) ?_)); with_reducible exact Wk.nil
  rintro k ⟨h1, h2⟩ Q' hn hx
  conv => whnf
  repeat' ((first | (with_reducible refine hid_mk ?_) | (with_reducible refine bcase_dec (fun hb => ?_) (fun hb => ?_)) | (with_reducible refine hx _ _ _ rfl ?_) | (with_reducible refine vblk_same ?_) | (with_reducible refine wnum_i64 (by omega) ?_) | (with_reducible refine wfoc_mapc (by first | omega) ?_) | (with_reducible refine And.intro (by first | with_reducible assumption | omega) ?_)) <;> (conv => whnf))
  · exact fin_pure (by rw [all_not (i := k) (by omega) (by omega)]) (by simp)
  · exact hn (k + 1) ⟨by omega, fun i hi => by by_cases e : i = k; (subst e; omega); exact h2 i (by omega)⟩ (by omega) _ _ (.inl ⟨rfl, by (with_reducible refine wk_force ?_); (conv => whnf); (with_reducible refine hid_mk ?_); (repeat (first | with_reducible refine Wk.wild ?_ | refine Wk.cons (by first | with_reducible rfl | exact congrArg (AV.int _) (by first | rfl) | fail) ?_)); with_reducible exact Wk.nil⟩)
  · exact fin_pure (by rw [all_gt (fun i hi => h2 i (by omega))]) (by simp)
theorem field_reckoner_in.n (p : Int) (w : Bool) : Pure prog 56 [.agg [.int .u64 p, .bool w], .lit (.slice none 0 0)] (.bool true) := by
  refine pure_of_vc field_reckoner_in.k (by simp) ?_
  conv => whnf
  repeat' ((first | (with_reducible refine hid_mk ?_) | (with_reducible refine vloop_roll ?_) | (with_reducible refine vblk_same ?_)) <;> (conv => whnf))
  all_goals exact fin_pure rfl (by simp)

theorem field_In.a (f : Int) (l : List Int) (hl : l.length ≤ 17592186043904) : Pure prog 52 [.int .u8 f, u64s l] (.bool (inB f l)) := by
  refine pure_of_vc field_In.k (by simp) ?_
  conv => whnf
  repeat' ((first | (with_reducible refine hid_mk ?_) | (with_reducible refine bcase_not ?_) | (with_reducible refine bcase_beq (fun hb => ?_) (fun hb => ?_)) | (with_reducible refine bcase_mk (fun hb => ?_) (fun hb => ?_)) | (with_reducible refine fin_inl ?_) | (with_reducible refine acalls_of_vc field_asked.k ?_) | (with_reducible refine acalls_of_vc field_of.k ?_) | (with_reducible refine Pure.use (field_reckoner_in.a _ _ l hl) ?_) | (with_reducible refine vblk_same ?_)) <;> (conv => whnf))
  all_goals exact fin_pure (by simp [inB, pF, *]) (by simp)
theorem field_In.n (f : Int) : Pure prog 52 [.int .u8 f, .lit (.slice none 0 0)] (.bool (inB f [])) := by
  refine pure_of_vc field_In.k (by simp) ?_
  conv => whnf
  repeat' ((first | (with_reducible refine hid_mk ?_) | (with_reducible refine bcase_beq (fun hb => ?_) (fun hb => ?_)) | (with_reducible refine fin_inl ?_) | (with_reducible refine acalls_of_vc field_asked.k ?_) | (with_reducible refine acalls_of_vc field_of.k ?_) | (with_reducible refine Pure.use (field_reckoner_in.n _ _) ?_) | (with_reducible refine vblk_same ?_)) <;> (conv => whnf))
  all_goals exact fin_pure (by simp [inB, pF, *]) (by simp)

theorem ref08_Wide.i (x y : Int) (hx : 0 ≤ x ∧ x < 18446744073709551616) (hy : 0 ≤ y ∧ y ≤ 8) : Pure prog 30 [.int .u64 x, .int .i64 y] (u8s (wide x.toNat y.toNat)) := by
  have := ref08_Wide.a x.toNat y.toNat (by omega) (by omega)
  rwa [Int.toNat_of_nonneg hx.1, Int.toNat_of_nonneg hy.1] at this

/-- A list of elements as bytes. -/
def listH (f : Int) (n : Nat) : List UInt8 := UInt8.ofNat f.toNat :: wide n 4
def listB (f : Int) (l : List Int) : List UInt8 := listH f l.length ++ l.flatMap fun x => wide x.toNat (4 * f).toNat
theorem flatW_length (f : Int) (l : List Int) : (l.flatMap fun x => wide x.toNat (4 * f).toNat).length = l.length * (4 * f).toNat := by
  induction l with
  | nil => simp
  | cons x l ih => rw [List.flatMap_cons, List.length_append, ih, wide_length, List.length_cons, Nat.succ_mul]; omega

theorem wcat_R {cs new : List AV} {k n : Nat} {K : List AV → Prop} (R : List AV) (h : (cs.drop k).take n ++ new = R) (q : K R) : wcat cs k n new K := ⟨by rw [h]; exact q⟩
def lB (H : List UInt8) (f : Int) (l : List Int) (k : Nat) : List UInt8 := H ++ (l.take k).flatMap fun x => wide x.toNat (4 * f).toNat
theorem lB_zero (H : List UInt8) (f : Int) (l : List Int) : lB H f l 0 = H := by simp [lB]
theorem lB_succ (H : List UInt8) (f : Int) (l : List Int) {k : Nat} (h : k < l.length) : lB H f l (k + 1) = lB H f l k ++ wide (gt l k).toNat (4 * f).toNat := by
  unfold lB; rw [take_gt h]; simp
theorem ref08_List.a (f : Int) (l : List Int) (hf : f = 1 ∨ f = 2) (hi : inB f l = true) (h0 : ∀ x ∈ l, 0 ≤ x) (hl : l.length ≤ 4096) : Pure prog 31 [.int .u8 f, u64s l] (.tup [u8s (listB f l), .int .i64 0]) := by
  have hw4 := wide_length (l.length : Int).toNat (Int.toNat 4)
  have hlt : ∀ k, k < l.length → 0 ≤ gt l k ∧ gt l k < 18446744073709551616 := fun k hk => ⟨h0 _ (gt_mem hk), by have := inB_lt hi hk; rcases pF_cases f with q | q | q <;> omega⟩
  have hf2 : (4 * f).toNat ≤ 8 := by rcases hf with rfl | rfl <;> decide
  have hH : listH f l.length = UInt8.ofNat f.toNat :: wide (l.length : Int).toNat (Int.toNat 4) := rfl
  have hHl : (listH f l.length).length = 5 := by simp [listH, wide_length]
  have hf1 : AV.int .u8 f = byt (UInt8.ofNat f.toNat) := by rcases hf with rfl | rfl <;> rfl
  have hLB : listB f l = lB (listH f l.length) f l l.length := by simp [listB, lB]
  rw [hLB]
  generalize hHd : listH f l.length = H at hH hHl
  refine pure_of_vc ref08_List.k (by simp) ?_
  conv => whnf
  repeat' ((first | (with_reducible refine hid_mk ?_) | (with_reducible refine bcase_not ?_) | (with_reducible refine bcase_true (by with_reducible assumption) ?_) | (with_reducible refine bcase_df (by omega) ?_) | (with_reducible refine Pure.use (ref01_In.a f l (by omega)) ?_) | (with_reducible refine Pure.use (ref08_Wide.i (l.length : Int) 4 (by omega) (by omega)) ?_) | (refine wcat_R (H.map byt) (by rw [hH, hf1]; rfl) ?_) | (with_reducible refine vblk_same ?_) | (with_reducible refine wnum_u64 (by omega) ?_) | (with_reducible refine wroom_grow (by omega) ?_) | (with_reducible refine ask_mk (by first | with_reducible assumption | omega | (refine ⟨by first | omega | (simp; done) | (simp; omega), by first | rfl | (simp [AV.isCell]; done) | (simp; omega)⟩)) ?_) | (with_reducible refine And.intro (by first | with_reducible assumption | (simp; done)) ?_)) <;> (conv => whnf))
  have hB0 : (lB H f l 0).length = 5 := by rw [lB_zero, hHl]
  refine vloopN 0 [1] [0] ref08_List.D0 (fun k : Nat => [(7, .int .i64 k), (6, .slice 0 0 (lB H f l k).length (lB H f l k).length)]) (fun k => [.cells ((lB H f l k).map byt) (some 1)])
    (fun k => k ≤ l.length ∧ (lB H f l k).length ≤ 5 + 8 * k) (fun k => l.length - k) 0 (by omega) (by decide) (by simp) ?_ ([.int .u8 f, u64s l, .wild, .wild, .wild, .wild] ++ List.replicate 32 .wild) ?_ ?_
  · rw [lB_zero]
    refine ⟨?_, trivial⟩
    (first | exact objR_same (by simp) rfl (by first | rfl | fail) (by first | (simp; done)) | fail)
  · (with_reducible refine rsl_force ?_); (conv => whnf); (with_reducible refine hid_mk ?_); (repeat (first | with_reducible exact RsL.nil | with_reducible refine RsL.cons (Rs.wild _) ?_ | with_reducible refine RsL.cons (Rs.int_eq (by first | rfl | omega)) ?_ | with_reducible refine RsL.cons (Rs.slice_eq rfl (by first | rfl) (by first | rfl | omega) (by first | rfl | omega)) ?_ | refine RsL.cons (Rs.eq rfl (by first | exact idLt_mapI (by intro a; simp))) ?_))
  rintro k ⟨h1, h2⟩ Q' hn hx
  have hs := fun h : k < l.length => lB_succ H f l h
  have hsl := fun h : k < l.length => congrArg List.length (lB_succ H f l h)
  have hwl := wide_length (gt l k).toNat (4 * f).toNat
  have hgk := hlt k
  simp only [List.length_append] at hsl
  generalize hBk : lB H f l k = B at hs hsl h2
  conv => whnf
  repeat' ((first | (with_reducible refine hid_mk ?_) | (with_reducible refine bcase_dec (fun hb => ?_) (fun hb => ?_)) | (with_reducible refine bcase_nbF (by omega) ?_) | (with_reducible refine both_mk rfl ?_) | (with_reducible refine hx _ _ _ rfl ?_) | (with_reducible refine fin_inl ?_) | (with_reducible refine acalls_of_vc ref08_width.k ?_) | (with_reducible refine Pure.use (ref08_Wide.i (gt l k) (4 * f) (by omega) (by omega)) ?_) | (with_reducible refine vblk_same ?_) | (with_reducible refine wnum_i64 (by omega) ?_) | (with_reducible refine wfoc_mapc (by first | omega) ?_) | (with_reducible refine wcat_maps (by first | omega) ?_) | (with_reducible refine wroom_grow (by omega) ?_) | (with_reducible refine ask_mk (by first | with_reducible assumption | omega | (refine ⟨by first | omega | (simp; done) | (simp; omega), by first | rfl | (simp [AV.isCell]; done) | (simp; omega)⟩)) ?_) | (with_reducible refine And.intro (by first | with_reducible assumption | omega | (simp; done)) ?_)) <;> (conv => whnf))
  · ((refine hn (k + 1) (⟨by omega, by rw [hs (by omega), List.length_append, hwl]; omega⟩) (by omega) _ _ (.inr (next_fin (fun ts h => [tsId ts 6 0]) ?_))); (simp only [hs (by omega), List.length_append]); (conv => whnf); (refine hid_mk ⟨⟨?_, trivial⟩, ?_⟩); (all_goals first | (first | exact objR_same (by simp) rfl (by first | rfl | fail) (by first | exact idLt_map.2 (fun _ _ => by simp)) | fail) | ((with_reducible refine rsl_force ?_); (conv => whnf); (with_reducible refine hid_mk ?_); (repeat (first | with_reducible exact RsL.nil | with_reducible refine RsL.cons (Rs.wild _) ?_ | with_reducible refine RsL.cons (Rs.int_eq (by first | rfl | omega)) ?_ | with_reducible refine RsL.cons (Rs.slice_eq rfl (by first | rfl) (by first | rfl) (by first | rfl)) ?_ | refine RsL.cons (Rs.eq rfl (by first | exact idLt_mapI (by intro a; simp))) ?_)))))
  · exact fin_rs [0] (Rs.tupL (.cons (rs_slice (by simp) rfl (by rw [← hBk, show k = l.length by omega]) (by rw [← hBk, show k = l.length by omega]) (by simp)) (.cons (.int_eq rfl) .nil)))

end Go.Proofs.Ytilhkgfhhkkolaa.C
