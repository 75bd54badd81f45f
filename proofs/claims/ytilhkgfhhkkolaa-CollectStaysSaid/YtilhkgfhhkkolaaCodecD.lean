/- Bytes: what is read, written again. -/
import Derived.Test.YtilhkgfhhkkolaaCodecC
namespace Go.Proofs.Ytilhkgfhhkkolaa.C
open Go Go.RowKit Go.Proofs.Ytilhkgfhhkkolaa.AL

theorem wide_succ (n k : Nat) : wide n (k + 1) = wide (n / 256) k ++ [UInt8.ofNat n] := by
  unfold wide
  rw [List.range_succ, List.map_append]
  congr 1
  · refine List.map_congr_left fun m hm => ?_
    have hm := List.mem_range.1 hm
    rw [Nat.div_div_eq_div_mul, show k + 1 - 1 - m = (k - 1 - m) + 1 by omega, Nat.pow_succ, Nat.mul_comm]
  · simp
theorem ofNat_snoc (x : Nat) (c : UInt8) : UInt8.ofNat (x * 256 + c.toNat) = c := by
  apply UInt8.toNat_inj.1
  have := u8_lt c
  simp
theorem wide_numR (r : List UInt8) : wide (numL r.reverse) r.length = r.reverse := by
  induction r with
  | nil => rfl
  | cons c r ih =>
    have := u8_lt c
    rw [List.reverse_cons, numL_snoc, List.length_cons, wide_succ, show (numL r.reverse * 256 + c.toNat) / 256 = numL r.reverse by omega, ih, ofNat_snoc]
theorem wide_numL {l : List UInt8} {k : Nat} (h : l.length = k) : wide (numL l) k = l := by
  have := wide_numR l.reverse
  rw [List.reverse_reverse, List.length_reverse, h] at this
  exact this

/-- A piece, sealed. -/
def sealB (w : List UInt8) : List UInt8 := (wide w.length 4 ++ w) ++ wide (fnv (wide w.length 4 ++ w)).toNat 8
theorem sealB_length (w : List UInt8) : (sealB w).length = w.length + 12 := by simp [sealB, wide_length]; omega
theorem seal_un {bs : List UInt8} (h : unE bs = 0) (hl : bs.length = 12 + numL (bs.take 4)) : sealB (unI bs) = bs := by
  obtain ⟨h1, h2, h3⟩ := unE_len h
  have hil := unI_length h
  have e1 : wide (unI bs).length 4 = bs.take 4 := by rw [hil]; exact wide_numL (by simp; omega)
  have e2 : bs.take 4 ++ unI bs = bs.take (4 + numL (bs.take 4)) := by rw [List.take_add]; rfl
  have e3 : (bs.drop (4 + numL (bs.take 4))).take 8 = bs.drop (4 + numL (bs.take 4)) := List.take_of_length_le (by simp; omega)
  unfold sealB
  rw [e1, e2, ← h3, e3, Int.toNat_natCast, wide_numL (by simp; omega), List.take_append_drop]

/-- A message as bytes. -/
def wB (K : UInt8) (r w : Nat) (f : Int) (l : List Int) : List UInt8 := [K] ++ wide r 4 ++ wide w 4 ++ listB f l
theorem listB_length (f : Int) (l : List Int) : (listB f l).length = 5 + l.length * (4 * f).toNat := by
  rw [listB, List.length_append, flatW_length, listH, List.length_cons, wide_length]
theorem wB_length (K : UInt8) (r w : Nat) (f : Int) (l : List Int) : (wB K r w f l).length = 14 + l.length * (4 * f).toNat := by
  simp [wB, wide_length, listB_length]; omega

theorem flatX (bs : List UInt8) (w : Nat) : ∀ n, 5 + n * w ≤ bs.length → ((List.range n).map (rlX bs w)).flatMap (fun x => wide x.toNat w) = (bs.drop 5).take (n * w) := by
  intro n
  induction n with
  | zero => intro _; simp
  | succ n ih =>
    intro h
    rw [Nat.succ_mul] at h
    rw [List.range_succ, List.map_append, List.flatMap_append, ih (by omega), Nat.succ_mul, List.take_add, List.drop_drop]
    congr 1
    simp only [List.map_cons, List.map_nil, List.flatMap_cons, List.flatMap_nil, List.append_nil]
    rw [rlX, Int.toNat_natCast]
    exact wide_numL (by simp; omega)
theorem list_un {bs : List UInt8} (h : rlE bs = 0) (hl : bs.length = 5 + rlN bs * rlW bs) : listB (rlF bs) (rlL bs) = bs := by
  obtain ⟨h1, h2, h3⟩ := rlE_in h
  have hw : (4 * rlF bs).toNat = rlW bs := by unfold rlF rlW; omega
  have e0 : UInt8.ofNat (rlF bs).toNat = gt bs 0 := by unfold rlF; rw [Int.toNat_natCast]; simp
  have e1 : wide (rlL bs).length 4 = (bs.drop 1).take 4 := by rw [rlL_length]; exact wide_numL (by simp; omega)
  unfold listB listH
  rw [hw, e0, e1, rlL, flatX bs (rlW bs) _ h3, List.take_of_length_le (l := bs.drop 5) (i := rlN bs * rlW bs) (by rw [List.length_drop]; omega)]
  have e2 : bs.drop 0 = gt bs 0 :: bs.drop 1 := drop_gt (by omega)
  rw [List.drop_zero] at e2
  have e3 : (bs.drop 1).take 4 ++ bs.drop 5 = bs.drop 1 := by
    have := List.take_append_drop 4 (bs.drop 1)
    rwa [List.drop_drop] at this
  rw [List.cons_append, e3, ← e2]
theorem msg_un {bs : List UInt8} (h : 9 ≤ bs.length) (h5 : rlE (mL bs) = 0) (hl : (mL bs).length = 5 + rlN (mL bs) * rlW (mL bs)) : wB (gt bs 0) (mR bs) (mW bs) (rlF (mL bs)) (rlL (mL bs)) = bs := by
  unfold wB
  rw [list_un h5 hl]
  have e1 : wide (mR bs) 4 = (bs.drop 1).take 4 := wide_numL (by simp; omega)
  have e2 : wide (mW bs) 4 = (bs.drop 5).take 4 := wide_numL (by simp; omega)
  rw [e1, e2]
  have e3 : (bs.drop 5).take 4 ++ mL bs = bs.drop 5 := by
    have := List.take_append_drop 4 (bs.drop 5)
    rwa [List.drop_drop] at this
  have e4 : (bs.drop 1).take 4 ++ bs.drop 5 = bs.drop 1 := by
    have := List.take_append_drop 4 (bs.drop 1)
    rwa [List.drop_drop] at this
  rw [List.append_assoc, List.append_assoc, e3, e4]
  have e5 : bs.drop 0 = gt bs 0 :: bs.drop 1 := drop_gt (by omega)
  rw [List.drop_zero] at e5
  exact e5.symm

end Go.Proofs.Ytilhkgfhhkkolaa.C
