/- The document's writer of messages. -/
import Derived.Test.YtilhkgfhhkkolaaCodecE
namespace Go.Proofs.Ytilhkgfhhkkolaa.C
open Go Go.RowKit Go.Proofs.Ytilhkgfhhkkolaa.AL
set_option maxRecDepth 100000
set_option maxHeartbeats 40000000
set_option linter.unusedVariables false
set_option linter.unusedSimpArgs false

set_option maxRecDepth 1000000
theorem ref20_Write.s (K r w f : Int) (L : List Int) (hK : K = 1 ∨ K = 2) (hr : 0 ≤ r ∧ r < 65536) (hw : 0 ≤ w ∧ w < 64) (hi : inB f L = true) (h0 : ∀ x ∈ L, 0 ≤ x) (hl : L.length ≤ 64) :
    Pure prog 18 [.agg [.int .u8 K, .int .i64 r, .int .i64 w, .int .u8 f, u64s L]] (.tup [u8s (sealB (wB (UInt8.ofNat K.toNat) r.toNat w.toNat f L)), .int .i64 0]) := by
  have hI := ref01_In.a f L (by omega)
  have hf := inB_ne hi
  have hLi := ref08_List.a f L hf hi h0 (by omega)
  have hR := ref08_Wide.i r 4 (by omega) (by omega)
  have hW := ref08_Wide.i w 4 (by omega) (by omega)
  have hRl := wide_length r.toNat (Int.toNat 4)
  have hWl := wide_length w.toNat (Int.toNat 4)
  have e4 : Int.toNat 4 = 4 := rfl
  rw [e4] at hR hW hRl hWl
  have hLl : (listB f L).length ≤ 517 := by
    rw [listB_length]
    rcases hf with rfl | rfl
    · show 5 + L.length * 4 ≤ 517; omega
    · show 5 + L.length * 8 ≤ 517; omega
  have hB5 : 5 ≤ (listB f L).length := by rw [listB_length]; omega
  have hK1 : AV.int .u8 K = byt (UInt8.ofNat K.toNat) := by rcases hK with rfl | rfl <;> rfl
  have hwB : wB (UInt8.ofNat K.toNat) r.toNat w.toNat f L = ([UInt8.ofNat K.toNat] ++ wide r.toNat 4) ++ wide w.toNat 4 ++ listB f L := rfl
  have hS := ref08_Seal.a (wB (UInt8.ofNat K.toNat) r.toNat w.toNat f L) (by rw [hwB]; simp only [List.length_append, List.length_singleton]; omega)
  have hSl : (wB (UInt8.ofNat K.toNat) r.toNat w.toNat f L).length = 9 + (listB f L).length := by rw [hwB]; simp only [List.length_append, List.length_singleton]; omega
  generalize sealB (wB (UInt8.ofNat K.toNat) r.toNat w.toNat f L) = Z at hS ⊢
  generalize wB (UInt8.ofNat K.toNat) r.toNat w.toNat f L = Y at hS hSl hwB
  generalize hkk : UInt8.ofNat K.toNat = kk at hK1 hwB
  generalize wide r.toNat 4 = R at hR hRl hwB
  generalize wide w.toNat 4 = W at hW hWl hwB
  generalize listB f L = B at hLi hLl hSl hwB hB5
  have hA : ([kk] ++ R).length = 5 := by simp; omega
  generalize hAd : [kk] ++ R = A at hA hwB
  refine pure_of_vc ref20_Write.k (by simp) ?_
  conv => whnf
  repeat' ((first | (with_reducible refine hid_mk ?_) | (with_reducible refine bcase_not ?_) | (with_reducible refine bcase_true (by with_reducible assumption) ?_) | (with_reducible refine bcase_dt (by omega) ?_) | (with_reducible refine bcase_et (by omega) ?_) | (with_reducible refine bcase_beq (fun hb => ?_) (fun hb => ?_)) | (with_reducible refine bcase_nbF (by omega) ?_) | (with_reducible refine both_mk rfl ?_) | (with_reducible refine alts_mk ?_ ?_) | (with_reducible refine fin_inl ?_) | (with_reducible refine acalls_of_vc ref20_May.k ?_) | (with_reducible refine Pure.use (hI) ?_) | (with_reducible refine Pure.use (hLi) ?_) | (with_reducible refine Pure.use (hR) ?_) | (with_reducible refine Pure.use (hW) ?_) | (refine wcat_R (A.map byt) (by rw [hK1, ← hAd]; rfl) ?_) | ((with_reducible refine pure_guard hS ?_); (refine Pure.useF hS [5] (.cons (rs_slice (f := byt) (l := Y) (by decide) rfl (by rw [hwB]) (by omega) (by simp)) .nil) ?_)) | (with_reducible refine wnum_u64 (by omega) ?_) | (with_reducible refine wcat_maps (by first | omega | (simp only [List.length_append, List.length_cons, List.length_nil]; omega)) ?_) | (with_reducible refine wroom_grow (by omega) ?_) | (with_reducible refine ask_mk (by first | with_reducible assumption | omega | (refine ⟨by first | omega | (simp; done) | (simp; omega), by first | rfl | (simp [AV.isCell]; done) | (simp; omega)⟩)) ?_) | (with_reducible refine And.intro (by first | with_reducible assumption | (simp; done)) ?_)) <;> (conv => whnf))
  all_goals exact fin_pure rfl (by simp)

end Go.Proofs.Ytilhkgfhhkkolaa.C
