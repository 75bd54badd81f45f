/- Bytes: their numbers, their sums. -/
import Derived.Test.YtilhkgfhhkkolaaCwire
import Derived.Test.YtilhkgfhhkkolaaCref08
import Derived.Test.YtilhkgfhhkkolaaAatom
import Derived.Test.YtilhkgfhhkkolaaAflat
namespace Go.Proofs.Ytilhkgfhhkkolaa.C
open Go Go.RowKit Go.Proofs.Ytilhkgfhhkkolaa.AL
set_option maxRecDepth 100000
set_option maxHeartbeats 40000000
set_option linter.unusedVariables false
set_option linter.unusedSimpArgs false

noncomputable abbrev prog := Go.Proofs.Try.prog

/-- The number of some bytes, the highest first. -/
def numL (l : List UInt8) : Nat := l.foldl (fun n c => n * 256 + c.toNat) 0
theorem numL_snoc (l : List UInt8) (c : UInt8) : numL (l ++ [c]) = numL l * 256 + c.toNat := by simp [numL]
theorem u8_lt (c : UInt8) : c.toNat < 256 := c.toNat_lt
theorem numF_lt (l : List UInt8) (a : Nat) : l.foldl (fun n c => n * 256 + c.toNat) a < (a + 1) * 256 ^ l.length := by
  induction l generalizing a with
  | nil => simp
  | cons c l ih =>
    rw [List.foldl_cons, List.length_cons, Nat.pow_succ]
    refine Nat.lt_of_lt_of_le (ih _) ?_
    have := u8_lt c
    rw [Nat.mul_comm (256 ^ l.length) 256, ← Nat.mul_assoc]
    exact Nat.mul_le_mul_right _ (by omega)
theorem numL_lt (l : List UInt8) : numL l < 256 ^ l.length := by have := numF_lt l 0; simpa [numL] using this
theorem numL_lt_of {l : List UInt8} {n : Nat} (h : l.length ≤ n) : numL l < 256 ^ n := Nat.lt_of_lt_of_le (numL_lt l) (Nat.pow_le_pow_right (by decide) h)
theorem numL_take {l : List UInt8} {k : Nat} (h : k < l.length) : numL (l.take (k + 1)) = numL (l.take k) * 256 + (gt l k).toNat := by rw [take_gt h, numL_snoc]
theorem numL_lt7 {l : List UInt8} {k : Nat} (h : k < 8) : numL (l.take k) < 72057594037927936 := numL_lt_of (n := 7) (by simp; omega)
theorem numL_lt4 {l : List UInt8} : numL (l.take 4) < 4294967296 := numL_lt_of (n := 4) (by simp; omega)

theorem or_num {n c : Int} (hn : 0 ≤ n ∧ n < 72057594037927936) (hc : 0 ≤ c ∧ c ≤ 255) : bits .or .u64 (n * 256) c = n * 256 + c := by
  obtain ⟨a, rfl⟩ := Int.eq_ofNat_of_zero_le hn.1
  obtain ⟨b, rfl⟩ := Int.eq_ofNat_of_zero_le hc.1
  have ha : a < 72057594037927936 := by omega
  have hb : b < 256 := by omega
  have e : (BitVec.ofInt 64 ((a : Int) * 256) ||| BitVec.ofInt 64 (b : Int)).toNat = a * 256 + b := by
    rw [BitVec.toNat_or, show (a : Int) * 256 = ((a * 256 : Nat) : Int) by push_cast; rfl, BitVec.ofInt_natCast, BitVec.ofInt_natCast, BitVec.toNat_ofNat, BitVec.toNat_ofNat, Nat.mod_eq_of_lt (by omega), Nat.mod_eq_of_lt (by omega)]
    have := Nat.shiftLeft_add_eq_or_of_lt (i := 8) (show b < 2 ^ 8 by omega) a
    rw [Nat.shiftLeft_eq] at this
    exact this.symm
  show IntKind.u64.wrap (((BitVec.ofInt 64 ((a : Int) * 256) ||| BitVec.ofInt 64 (b : Int)).toNat : Nat) : Int) = _
  rw [e, wrap_u64 (by omega) (by omega)]
  push_cast; rfl
theorem wshl8 {a : Int} {K : Int → Prop} (h : 0 ≤ a ∧ a < 72057594037927936) (q : K (a * 256)) : wshl .u64 a 8 K := by
  refine ⟨by decide, ?_⟩
  have : a * 2 ^ (min (Int.toNat 8) (IntKind.bits .u64)) = a * 256 := by
    have e : min (Int.toNat 8) (IntKind.bits .u64) = 8 := by decide
    rw [e]; rfl
  rw [this, wrap_u64 (by omega) (by omega)]; exact q

/-- The sum of some bytes. -/
@[irreducible] def fnvS (s : Int) (c : UInt8) : Int := IntKind.u64.wrap (bits .xor .u64 s c.toNat * 1099511628211)
@[irreducible] def fnv (l : List UInt8) : Int := l.foldl fnvS 14695981039346656037
theorem fnv_nil : fnv [] = 14695981039346656037 := by unfold fnv; rfl
theorem fnv_take {l : List UInt8} {k : Nat} (h : k < l.length) : fnv (l.take (k + 1)) = fnvS (fnv (l.take k)) (gt l k) := by rw [take_gt h]; unfold fnv; simp

theorem wire_Sum.a (bs : List UInt8) (hl : bs.length ≤ 140737488351232) : Pure prog 38 [u8s bs] (.int .u64 (fnv bs)) := by
  refine pure_of_vc wire_Sum.k (by simp) ?_
  conv => whnf
  repeat' ((first | (with_reducible refine hid_mk ?_) | (with_reducible refine vblk_same ?_)) <;> (conv => whnf))
  refine vloopW wire_Sum.D0 (fun k : Nat => [(8, .int .i64 k), (3, .int .u64 (fnv (bs.take k)))]) (fun _ => []) (fun k => k ≤ bs.length) (fun k => bs.length - k) 0 (by omega) rfl ?_ ?_
  · (with_reducible refine wk_force ?_); (conv => whnf); (with_reducible refine hid_mk ?_); (repeat (first | with_reducible refine Wk.wild ?_ | refine Wk.cons (by first | with_reducible rfl | exact congrArg (AV.int _) (by first | (rw [List.take_zero, fnv_nil]) | rfl) | fail) ?_)); with_reducible exact Wk.nil
  rintro k h1 Q' hn hx
  have hf := fun h : k < bs.length => fnv_take h
  conv => whnf
  repeat' ((first | (with_reducible refine hid_mk ?_) | (with_reducible refine bcase_dec (fun hb => ?_) (fun hb => ?_)) | (with_reducible refine hx _ _ _ rfl ?_) | (with_reducible refine vblk_same ?_) | (with_reducible refine wnum_byU ?_) | (with_reducible refine wnum_i64 (by omega) ?_) | (with_reducible refine wnum_mk ?_) | (with_reducible refine wfoc_mapc (by first | omega) ?_) | (with_reducible refine And.intro (by first | with_reducible assumption | omega) ?_)) <;> (conv => whnf))
  · exact hn (k + 1) (by omega) (by omega) _ _ (.inl ⟨rfl, by (with_reducible refine wk_force ?_); (conv => whnf); (with_reducible refine hid_mk ?_); (repeat (first | with_reducible refine Wk.wild ?_ | refine Wk.cons (by first | with_reducible rfl | exact congrArg (AV.int _) (by first | (rw [hf (by omega)]; unfold fnvS; rfl) | rfl) | fail) ?_)); with_reducible exact Wk.nil⟩)
  · exact fin_pure (by rw [List.take_of_length_le (by omega)]) (by simp)

theorem ref08_Sum.a (bs : List UInt8) (hl : bs.length ≤ 140737488351232) : Pure prog 48 [u8s bs] (.int .u64 (fnv bs)) := by
  refine pure_of_vc ref08_Sum.k (by simp) ?_
  conv => whnf
  repeat' ((first | (with_reducible refine hid_mk ?_) | (with_reducible refine vblk_same ?_)) <;> (conv => whnf))
  refine vloopW ref08_Sum.D0 (fun k : Nat => [(4, .int .i64 k), (3, .int .u64 (fnv (bs.take k)))]) (fun _ => []) (fun k => k ≤ bs.length) (fun k => bs.length - k) 0 (by omega) rfl ?_ ?_
  · (with_reducible refine wk_force ?_); (conv => whnf); (with_reducible refine hid_mk ?_); (repeat (first | with_reducible refine Wk.wild ?_ | refine Wk.cons (by first | with_reducible rfl | exact congrArg (AV.int _) (by first | (rw [List.take_zero, fnv_nil]) | rfl) | fail) ?_)); with_reducible exact Wk.nil
  rintro k h1 Q' hn hx
  have hf := fun h : k < bs.length => fnv_take h
  conv => whnf
  repeat' ((first | (with_reducible refine hid_mk ?_) | (with_reducible refine bcase_dec (fun hb => ?_) (fun hb => ?_)) | (with_reducible refine hx _ _ _ rfl ?_) | (with_reducible refine vblk_same ?_) | (with_reducible refine wnum_byU ?_) | (with_reducible refine wnum_i64 (by omega) ?_) | (with_reducible refine wnum_mk ?_) | (with_reducible refine wfoc_mapc (by first | omega) ?_) | (with_reducible refine And.intro (by first | with_reducible assumption | omega) ?_)) <;> (conv => whnf))
  · exact hn (k + 1) (by omega) (by omega) _ _ (.inl ⟨rfl, by (with_reducible refine wk_force ?_); (conv => whnf); (with_reducible refine hid_mk ?_); (repeat (first | with_reducible refine Wk.wild ?_ | refine Wk.cons (by first | with_reducible rfl | exact congrArg (AV.int _) (by first | (rw [hf (by omega)]; unfold fnvS; rfl) | rfl) | fail) ?_)); with_reducible exact Wk.nil⟩)
  · exact fin_pure (by rw [List.take_of_length_le (by omega)]) (by simp)

theorem ref08_Taken.a (bs : List UInt8) (hl : bs.length ≤ 8) : Pure prog 27 [u8s bs] (.int .u64 (numL bs)) := by
  refine pure_of_vc ref08_Taken.k (by simp) ?_
  conv => whnf
  repeat' ((first | (with_reducible refine hid_mk ?_) | (with_reducible refine vblk_same ?_)) <;> (conv => whnf))
  refine vloopW ref08_Taken.D0 (fun k : Nat => [(4, .int .i64 k), (3, .int .u64 (numL (bs.take k)))]) (fun _ => []) (fun k => k ≤ bs.length) (fun k => bs.length - k) 0 (by omega) rfl ?_ ?_
  · (with_reducible refine wk_force ?_); (conv => whnf); (with_reducible refine hid_mk ?_); (repeat (first | with_reducible refine Wk.wild ?_ | refine Wk.cons (by first | with_reducible rfl | exact congrArg (AV.int _) (by first | rfl) | fail) ?_)); with_reducible exact Wk.nil
  rintro k h1 Q' hn hx
  have hf := fun h : k < bs.length => numL_take h
  have h7 := fun h : k < 8 => numL_lt7 (l := bs) h
  have hc := u8_lt (gt bs k)
  conv => whnf
  repeat' ((first | (with_reducible refine hid_mk ?_) | (with_reducible refine bcase_dec (fun hb => ?_) (fun hb => ?_)) | (with_reducible refine hx _ _ _ rfl ?_) | (with_reducible refine wnum_u64 (by have := h7 (by omega); omega) ?_) | (with_reducible refine vblk_same ?_) | (with_reducible refine wnum_i64 (by omega) ?_) | (with_reducible refine wfoc_mapc (by first | omega) ?_) | (with_reducible refine And.intro (by first | with_reducible assumption | omega) ?_)) <;> (conv => whnf))
  · exact hn (k + 1) (by omega) (by omega) _ _ (.inl ⟨rfl, by (with_reducible refine wk_force ?_); (conv => whnf); (with_reducible refine hid_mk ?_); (repeat (first | with_reducible refine Wk.wild ?_ | refine Wk.cons (by first | with_reducible rfl | exact congrArg (AV.int _) (by first | (rw [hf (by omega)]; push_cast; rfl) | rfl) | fail) ?_)); with_reducible exact Wk.nil⟩)
  · exact fin_pure (by rw [List.take_of_length_le (by omega)]) (by simp)

theorem wire_taker_1.a (bs : List UInt8) (n : Int) (h0 : 0 ≤ n ∧ n ≤ 8) (hl : n ≤ bs.length) (hb : bs.length ≤ 140737488351232) : ACalls prog 51 [.int .i64 n, .ptr 0 0] [.cells [u8s bs] none]
    fun e h' => e = .ret (.int .u64 (numL (bs.take n.toNat))) ∧ h' = [.cells [u8s (bs.drop n.toNat)] none] := by
  have hcl : (bs.take n.toNat).length = n.toNat := by simp; omega
  generalize hC : bs.take n.toNat = C at hcl
  refine acalls_of_vc wire_taker_1.k ?_
  conv => whnf
  repeat' ((first | (with_reducible refine hid_mk ?_) | (refine wcut_tk n.toNat (by omega) (by omega) ?_; rw [hC]) | (with_reducible refine vblk_same ?_) | (with_reducible refine And.intro (by first | with_reducible assumption | omega | (simp; done)) ?_)) <;> (conv => whnf))
  refine vloopW wire_taker_1.D0 (fun k : Nat => [(11, .int .i64 k), (4, .int .u64 (numL (C.take k)))]) (fun _ => [.cells [u8s bs] none]) (fun k => k ≤ C.length) (fun k => C.length - k) 0 (by omega) rfl ?_ ?_
  · (with_reducible refine wk_force ?_); (conv => whnf); (with_reducible refine hid_mk ?_); (repeat (first | with_reducible refine Wk.wild ?_ | refine Wk.cons (by first | with_reducible rfl | exact congrArg (AV.int _) (by first | rfl) | fail) ?_)); with_reducible exact Wk.nil
  rintro k h1 Q' hn hx
  have hf := fun h : k < C.length => numL_take h
  have h7 := fun h : k < 8 => numL_lt7 (l := C) h
  have hc := u8_lt (gt C k)
  conv => whnf
  repeat' ((first | (with_reducible refine hid_mk ?_) | (with_reducible refine bcase_dec (fun hb => ?_) (fun hb => ?_)) | (with_reducible refine hx _ _ _ rfl ?_) | (with_reducible refine wshl8 (by have := h7 (by omega); omega) ?_) | (refine wcut_dr n.toNat (by omega) (by omega) ?_) | (with_reducible refine vblk_same ?_) | (with_reducible refine wnum_byU ?_) | (with_reducible refine wnum_i64 (by omega) ?_) | (with_reducible refine wfoc_mapc (by first | omega) ?_) | (with_reducible refine And.intro (by first | with_reducible assumption | omega | (simp; done)) ?_)) <;> (conv => whnf))
  · exact hn (k + 1) (by omega) (by omega) _ _ (.inl ⟨rfl, by (with_reducible refine wk_force ?_); (conv => whnf); (with_reducible refine hid_mk ?_); (repeat (first | with_reducible refine Wk.wild ?_ | refine Wk.cons (by first | with_reducible rfl | exact congrArg (AV.int _) (by first | (rw [hf (by omega), or_num (by have := h7 (by omega); omega) (by omega)]; push_cast; rfl) | rfl) | fail) ?_)); with_reducible exact Wk.nil⟩)
  · refine fin_1 [] (.int_eq (by rw [List.take_of_length_le (by omega)])) (objR_cells (by simp) rfl (.cons (rs_isl (by simp) (by simp; omega)) .nil))

end Go.Proofs.Ytilhkgfhhkkolaa.C
