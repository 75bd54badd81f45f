/- Package collect: has, same. -/
import Derived.Test.YtilhkgfhhkkolaaCollC
import Derived.Test.YtilhkgfhhkkolaaClaw25
namespace Go.Proofs.Ytilhkgfhhkkolaa.C
open Go Go.RowKit Go.Proofs.Ytilhkgfhhkkolaa.AL
set_option maxRecDepth 100000
set_option maxHeartbeats 40000000
set_option linter.unusedVariables false
set_option linter.unusedSimpArgs false

/-- A reply. -/
structure Rep where
  w : Int
  l : List Int
  deriving Inhabited
abbrev Rep.enc (r : Rep) : List AV := [.int .i64 r.w, u64s r.l]
abbrev reps (L : List Rep) : AV := .islice false L.length (L.flatMap Rep.enc)

theorem ref01_Same.a (l : List Int) (hl : l.length ≤ 17592186043904) : Pure prog 7 [u64s l, u64s l] (.bool true) := by
  refine pure_of_vc ref01_Same.k (by simp) ?_
  conv => whnf
  repeat' ((first | (with_reducible refine hid_mk ?_) | (with_reducible refine bcase_nf (by omega) ?_) | (with_reducible refine vblk_same ?_)) <;> (conv => whnf))
  refine vloopW ref01_Same.D0 (fun k : Nat => [(5, .int .i64 k)]) (fun _ => []) (fun k => k ≤ l.length) (fun k => l.length - k) 0 (by omega) rfl ?_ ?_
  · (with_reducible refine wk_force ?_); (conv => whnf); (with_reducible refine hid_mk ?_); (repeat (first | with_reducible refine Wk.wild ?_ | refine Wk.cons (by first | with_reducible rfl | exact congrArg (AV.int _) (by first | rfl)) ?_)); with_reducible exact Wk.nil
  rintro k h1 Q' hn hx
  conv => whnf
  repeat' ((first | (with_reducible refine hid_mk ?_) | (with_reducible refine bcase_nf (by omega) ?_) | (with_reducible refine bcase_dec (fun hb => ?_) (fun hb => ?_)) | (with_reducible refine hx _ _ _ rfl ?_) | (with_reducible refine vblk_same ?_) | (with_reducible refine wnum_i64 (by omega) ?_) | (with_reducible refine wfoc_mapc (by first | omega) ?_) | (with_reducible refine And.intro (by first | with_reducible assumption | omega) ?_)) <;> (conv => whnf))
  · exact hn (k + 1) (by omega) (by omega) _ _ (.inl ⟨rfl, by (with_reducible refine wk_force ?_); (conv => whnf); (with_reducible refine hid_mk ?_); (repeat (first | with_reducible refine Wk.wild ?_ | refine Wk.cons (by first | with_reducible rfl | exact congrArg (AV.int _) (by first | rfl)) ?_)); with_reducible exact Wk.nil⟩)
  · exact fin_pure rfl (by simp)

theorem law25_same.a (L : List Rep) (hL : L.length ≤ 17592186043904) (hl : ∀ r ∈ L, r.l.length ≤ 17592186043904) : Pure prog 10 [reps L, reps L] (.bool true) := by
  refine pure_of_vc law25_same.k (List.forall_mem_cons.2 ⟨idLt_fl (by intro a _; simp), List.forall_mem_cons.2 ⟨idLt_fl (by intro a _; simp), by simp⟩⟩) ?_
  conv => whnf
  repeat' ((first | (with_reducible refine hid_mk ?_) | (with_reducible refine bcase_nf (by omega) ?_) | (with_reducible refine vblk_same ?_)) <;> (conv => whnf))
  refine vloopW law25_same.D0 (fun k : Nat => [(5, .int .i64 k)]) (fun _ => []) (fun k => k ≤ L.length) (fun k => L.length - k) 0 (by omega) rfl ?_ ?_
  · (with_reducible refine wk_force ?_); (conv => whnf); (with_reducible refine hid_mk ?_); (repeat (first | with_reducible refine Wk.wild ?_ | refine Wk.cons (by first | with_reducible rfl | exact congrArg (AV.int _) (by first | rfl)) ?_)); with_reducible exact Wk.nil
  rintro k h1 Q' hn hx
  have hlk := fun h : k < L.length => hl _ (gt_mem h)
  conv => whnf
  repeat' ((first | (with_reducible refine hid_mk ?_) | (with_reducible refine bcase_nf (by omega) ?_) | (with_reducible refine bcase_dec (fun hb => ?_) (fun hb => ?_)) | (with_reducible refine hx _ _ _ rfl ?_) | ((with_reducible refine pure_guard (ref01_Same.a (gt L k).l (hlk (by omega))) ?_); (refine Pure.use0 (ref01_Same.a (gt L k).l (hlk (by omega))) (by (first | ((repeat (first | with_reducible exact RsL.nil | refine RsL.cons (Rs.eq rfl (by first | exact idLt_mapI (by intro a; simp))) ?_)); done))) ?_)) | (with_reducible refine vblk_same ?_) | (with_reducible refine wnum_i64 (by omega) ?_) | (with_reducible refine wfoc_flatc (by intro _; with_unfolding_all rfl) (by first | omega) ?_) | (with_reducible refine And.intro (by first | with_reducible assumption | omega) ?_)) <;> (conv => whnf))
  · exact hn (k + 1) (by omega) (by omega) _ _ (.inl ⟨rfl, by (with_reducible refine wk_force ?_); (conv => whnf); (with_reducible refine hid_mk ?_); (repeat (first | with_reducible refine Wk.wild ?_ | refine Wk.cons (by first | with_reducible rfl | exact congrArg (AV.int _) (by first | rfl)) ?_)); with_reducible exact Wk.nil⟩)
  · exact fin_pure rfl (by simp)

/-- Is there a reply of a worker? -/
def hasR (L : List Rep) (x : Int) : Bool := L.any fun r => r.w == x
theorem hasR_t {L : List Rep} {x : Int} {k : Nat} (hk : k < L.length) (h : (gt L k).w = x) : hasR L x = true := by
  rw [hasR, List.any_eq_true]; exact ⟨_, gt_mem hk, by simpa using h⟩
theorem hasR_f {L : List Rep} {x : Int} (h : ∀ i, i < L.length → (gt L i).w ≠ x) : hasR L x = false := by
  rw [Bool.eq_false_iff]; intro q
  rw [hasR, List.any_eq_true] at q
  obtain ⟨r, hr, e⟩ := q
  obtain ⟨i, hi, rfl⟩ := List.mem_iff_getElem.1 hr
  have := h i hi
  rw [gt_eq hi] at this
  exact this (by simpa using e)
theorem ref25_has.a (L : List Rep) (x : Int) (hL : L.length ≤ 17592186043904) : Pure prog 17 [reps L, .int .i64 x] (.bool (hasR L x)) := by
  refine pure_of_vc ref25_has.k (List.forall_mem_cons.2 ⟨idLt_fl (by intro a _; simp), by simp⟩) ?_
  conv => whnf
  repeat' ((first | (with_reducible refine hid_mk ?_) | (with_reducible refine vblk_same ?_)) <;> (conv => whnf))
  refine vloopW ref25_has.D0 (fun k : Nat => [(5, .int .i64 k)]) (fun _ => []) (fun k => k ≤ L.length ∧ ∀ i, i < k → (gt L i).w ≠ x) (fun k => L.length - k) 0 (by simp) rfl ?_ ?_
  · (with_reducible refine wk_force ?_); (conv => whnf); (with_reducible refine hid_mk ?_); (repeat (first | with_reducible refine Wk.wild ?_ | refine Wk.cons (by first | with_reducible rfl | exact congrArg (AV.int _) (by first | rfl)) ?_)); with_reducible exact Wk.nil
  rintro k ⟨h1, h2⟩ Q' hn hx
  conv => whnf
  repeat' ((first | (with_reducible refine hid_mk ?_) | (with_reducible refine bcase_dec (fun hb => ?_) (fun hb => ?_)) | (with_reducible refine bcase_beq (fun hb => ?_) (fun hb => ?_)) | (with_reducible refine hx _ _ _ rfl ?_) | (with_reducible refine vblk_same ?_) | (with_reducible refine wnum_i64 (by omega) ?_) | (with_reducible refine wfoc_flatc (by intro _; with_unfolding_all rfl) (by first | omega) ?_) | (with_reducible refine And.intro (by first | with_reducible assumption | omega) ?_)) <;> (conv => whnf))
  · exact fin_pure (by rw [hasR_t (k := k) (by omega) (by assumption)]) (by simp)
  · exact hn (k + 1) ⟨by omega, fun i hi => by by_cases e : i = k; (subst e; assumption); exact h2 i (by omega)⟩ (by omega) _ _ (.inl ⟨rfl, by (with_reducible refine wk_force ?_); (conv => whnf); (with_reducible refine hid_mk ?_); (repeat (first | with_reducible refine Wk.wild ?_ | refine Wk.cons (by first | with_reducible rfl | exact congrArg (AV.int _) (by first | rfl)) ?_)); with_reducible exact Wk.nil⟩)
  · exact fin_pure (by rw [hasR_f (fun i hi => h2 i (by omega))]) (by simp)

end Go.Proofs.Ytilhkgfhhkkolaa.C
