/- The law's one reply that counts, and the walk of CollectFirst as its row asks for it. -/
import Derived.Test.YtilhkgfhhkkolaaCollG
import Derived.Test.YtilhkgfhhkkolaaAarg
import Derived.KernelRfl
namespace Go.Proofs.Ytilhkgfhhkkolaa.C
open Go Go.RowKit Go.Proofs.Ytilhkgfhhkkolaa.AL
set_option maxRecDepth 100000
set_option maxHeartbeats 40000000
set_option linter.unusedVariables false
set_option linter.unusedSimpArgs false

abbrev pFive : Pl := ⟨1, 5, 2, 1, 0, 1, 1, 1⟩
def oneB : List UInt8 := sealB (wB 2 0 2 1 [15])
theorem oneB_unI : unI oneB = wB 2 0 2 1 [15] := by decide +kernel
theorem oneB_un : unE oneB = 0 := by decide +kernel
theorem oneB_ok : ROk oneB := ⟨oneB_un, by decide +kernel, by
  rw [oneB_unI]; exact ⟨by decide +kernel, by decide +kernel, by decide +kernel, by decide +kernel, by decide +kernel, by decide +kernel, by decide +kernel⟩⟩
theorem oneB_w : mW (unI oneB) = 2 := by decide +kernel
theorem oneB_l : rlL (mL (unI oneB)) = [15] := by decide +kernel
theorem five_may : cMay pFive 1 0 := ⟨by decide, ⟨by decide, by decide⟩, by decide, by decide⟩
theorem oneB_wok : WOk pFive 1 0 3 oneB := ⟨oneB_ok, by decide +kernel, by decide +kernel, by rw [oneB_w]; decide, by rw [oneB_w]; decide, by decide +kernel, by decide +kernel⟩

set_option maxRecDepth 1000000
theorem law25_anchored.a : Pure prog 11 [] (.bool true) := by
  have hWr := ref20_Write.s 2 0 2 1 [15] (by decide) (by decide) (by decide) (by decide) (by decide) (by decide)
  rw [show sealB (wB (UInt8.ofNat (Int.toNat 2)) (Int.toNat 0) (Int.toNat 2) 1 [15]) = oneB from rfl] at hWr
  have hlen : oneB.length ≤ 140737488351232 := by decide +kernel
  have hW := collect_Well.s pFive 1 0 3 oneB hlen five_may oneB_wok
  rw [oneB_l, oneB_w] at hW
  have hF := collect_Well.f pFive 1 0 2 oneB hlen five_may (fun q => by have := q.wk; rw [oneB_w] at this; exact absurd this (by decide))
  have hS := ref01_Same.a [15] (by decide)
  generalize oneB = Z at hWr hW hF
  refine pure_of_vc law25_anchored.k (by simp) ?_
  conv => whnf
  repeat' ((first | (with_reducible refine hid_mk ?_) | (with_reducible refine fin_inl ?_) | (with_reducible refine acalls_of_vc law25_five.k ?_) | ((with_reducible refine pure_guard hWr ?_); (refine Pure.useF hWr [0] (.cons (Rs.aggL (.cons (.int_eq rfl) (.cons (.int_eq rfl) (.cons (.int_eq rfl) (.cons (.int_eq rfl) (.cons (rs_slice (f := AV.int .u64) (l := [15]) (by decide) rfl rfl rfl (by simp)) .nil)))))) .nil) ?_)) | ((with_reducible refine pure_guard (hW) ?_); (refine Pure.use0 (hW) (by (first | ((repeat (first | with_reducible exact RsL.nil | with_reducible refine RsL.cons (Rs.int_eq (by first | rfl)) ?_ | refine RsL.cons (Rs.eq rfl (by first | exact idLt_mapI (by intro a; simp) | (simp; done))) ?_)); done) | fail)) ?_)) | ((with_reducible refine pure_guard (hF) ?_); (refine Pure.use0 (hF) (by (first | ((repeat (first | with_reducible exact RsL.nil | with_reducible refine RsL.cons (Rs.int_eq (by first | rfl)) ?_ | refine RsL.cons (Rs.eq rfl (by first | exact idLt_mapI (by intro a; simp) | (simp; done))) ?_)); done) | fail)) ?_)) | ((with_reducible refine pure_guard hS ?_); (refine Pure.useB hS (.bool _) [5] (.cons (.eq rfl (by simp)) (.cons (rs_slice (f := AV.int .u64) (l := [15]) (by decide) rfl rfl rfl (by simp)) .nil)) ?_))) <;> (conv => whnf))
  all_goals exact fin_pure rfl (by simp)

theorem ty_plan {n b : Nat} {cz : List AV} (h : TyOk prog (n + 2) 24 cz b) : ∃ p : Pl, p.Ok ∧ cz = p.cells := by
  obtain ⟨a1, b1, r1, c1, h1, g1, e1, _⟩ := ty_struct Try.underlying24 h
  obtain ⟨f, rfl, hf⟩ := ty_u8 Try.underlying22 h1
  obtain ⟨a2, b2, r2, c2, h2, g2, e2, _⟩ := g1
  obtain ⟨x2, rfl, q2⟩ := ty_i64 Try.underlying3 h2
  obtain ⟨a3, b3, r3, c3, h3, g3, e3, _⟩ := g2
  obtain ⟨x3, rfl, q3⟩ := ty_i64 Try.underlying3 h3
  obtain ⟨a4, b4, r4, c4, h4, g4, e4, _⟩ := g3
  obtain ⟨x4, rfl, q4⟩ := ty_i64 Try.underlying3 h4
  obtain ⟨a5, b5, r5, c5, h5, g5, e5, _⟩ := g4
  obtain ⟨x5, rfl, q5⟩ := ty_i64 Try.underlying3 h5
  obtain ⟨a6, b6, r6, c6, h6, g6, e6, _⟩ := g5
  obtain ⟨x6, rfl, q6⟩ := ty_i64 Try.underlying3 h6
  obtain ⟨a7, b7, r7, c7, h7, g7, e7, _⟩ := g6
  obtain ⟨x7, rfl, q7⟩ := ty_i64 Try.underlying3 h7
  obtain ⟨a8, b8, r8, c8, h8, g8, e8, _⟩ := g7
  obtain ⟨x8, rfl, q8⟩ := ty_i64 Try.underlying3 h8
  have e9 : r8 = [] := g8
  subst e9 e8 e7 e6 e5 e4 e3 e2 e1
  exact ⟨⟨f, x2, x3, x4, x5, x6, x7, x8⟩, ⟨hf, q2, q3, q4, q5, q6, q7, q8⟩, rfl⟩
theorem arg_plan {n b : Nat} {a : AV} (h : ArgOk prog (n + 2) 24 a b) : ∃ p : Pl, p.Ok ∧ a = p.v := by
  unfold ArgOk at h
  rw [Try.underlying24] at h
  obtain ⟨cz, rfl, h⟩ := h
  obtain ⟨p, hp, rfl⟩ := ty_plan h
  exact ⟨p, hp, rfl⟩
theorem ty_pkt {n b : Nat} {cz : List AV} (h : TyOk prog (n + 3) 35 cz b) : ∃ x : Pkt, cz = x.enc ∧ I64 x.a ∧ x.bs.length ≤ 140737488351232 := by
  obtain ⟨a1, b1, r1, c1, h1, g1, e1, _⟩ := ty_struct Try.underlying35 h
  obtain ⟨a, rfl, ha⟩ := ty_i64 Try.underlying3 h1
  obtain ⟨a2, b2, r2, c2, h2, g2, e2, _⟩ := g1
  obtain ⟨x, rfl, _⟩ := ty_i64 Try.underlying3 h2
  obtain ⟨a3, b3, r3, c3, h3, g3, e3, _⟩ := g2
  obtain ⟨l, rfl, hl, _⟩ := cz_of_u8s Try.underlying33 Try.underlying5 (by kernel_rfl) h3
  have e4 : r3 = [] := g3
  subst e4 e3 e2 e1
  exact ⟨⟨a, x, l⟩, rfl, ha, hl⟩
theorem arg_pkts {n b : Nat} {a : AV} (h : ArgOk prog (n + 5) 26 a b) : ∃ l : List Pkt, a = pkts l ∧ l.length ≤ 3518437208781 ∧ ∀ x ∈ l, I64 x.a ∧ x.bs.length ≤ 140737488351232 := by
  unfold ArgOk at h
  rw [Try.underlying26] at h
  obtain ⟨l, e, hlb, hl, bs, h1, h2, h3⟩ := ty_slice Try.underlying26 h Pkt.enc (fun x _ => I64 x.a ∧ x.bs.length ≤ 140737488351232) (fun cs b h => by
    obtain ⟨x, e, hx⟩ := ty_pkt h
    exact ⟨x, e, hx⟩)
  have hb : Program.bytesOf prog 35 = 40 := by kernel_rfl
  rw [hb, reach_eq] at hl
  refine ⟨l, by simpa using e, by omega, ?_⟩
  intro t ht
  obtain ⟨i, hi, rfl⟩ := List.mem_iff_getElem.1 ht
  have hi' : i < bs.length := by omega
  exact h3 i l[i] bs[i] (List.getElem?_eq_getElem _) (List.getElem?_eq_getElem _)

set_option maxRecDepth 100000 in
theorem arg_by3 {n b : Nat} {a : AV} (h : ArgOk prog (n + 2) 25 a b) : ∃ x y z : Int, a = by3 x y z ∧ I64 x ∧ I64 y ∧ I64 z := by
  unfold ArgOk at h
  rw [Try.underlying25] at h
  obtain ⟨cz, rfl, h⟩ := h
  obtain ⟨a1, b1, r1, c1, h1, g1, e1, _⟩ := ty_array Try.underlying25 h
  obtain ⟨x, rfl, hx⟩ := ty_i64 Try.underlying3 h1
  obtain ⟨a2, b2, r2, c2, h2, g2, e2, _⟩ := g1
  obtain ⟨y, rfl, hy⟩ := ty_i64 Try.underlying3 h2
  obtain ⟨a3, b3, r3, c3, h3, g3, e3, _⟩ := g2
  obtain ⟨z, rfl, hz⟩ := ty_i64 Try.underlying3 h3
  have e4 : r3 = [] := g3
  subst e4 e3 e2 e1
  exact ⟨x, y, z, rfl, hx, hy, hz⟩

end Go.Proofs.Ytilhkgfhhkkolaa.C
