/- Layer 21: what the cases of NetHonest share. -/
import Derived.Test.YtapgnmigpfcdfaaNetG
namespace Go.Proofs.Ytapgnmigpfcdfaa.C
open Go Go.RowKit Go.Proofs.Ytapgnmigpfcdfaa.AL
set_option maxRecDepth 100000
set_option maxHeartbeats 40000000
set_option linter.unusedVariables false
set_option linter.unusedSimpArgs false

structure HSt where
  j : Nat
  L : List Pkt
  N : NN
  t : Nat
  S : List Pkt
/-- What holds of it when k calls were made. -/
structure HOk (k : Nat) (x : HSt) : Prop where
  n5 : x.N.n = 5
  hs : 0 ≤ x.N.s ∧ x.N.s ≤ k
  hd : 0 ≤ x.N.d ∧ x.N.d ≤ k
  hk : 0 ≤ x.N.l ∧ x.N.l ≤ k
  sum : (x.L.length : Int) = x.N.s - x.N.d - x.N.l
  le : x.L.length ≤ 4096
  ok : ∀ p ∈ x.L, p.ok 5
  was : ∀ p ∈ x.L, p ∈ x.S
  sl : x.S.length ≤ k
abbrev HSt.hp (s : HSt) : Heap := [.cells (s.N.cs 1 s.L) none, arO s.L s.t, arO s.S 0]
abbrev hts (ops : List NOp) : List AV := [nops ops, .wild, .wild, .ptr 0 0, .int .i64 0] ++ List.replicate 114 .wild
theorem joinN {α : Type} {m id : Nat} {fr : α → List AV} {hp : α → Heap} {I : α → Prop} {Q' : Post} (hj : Joins m id fr hp I Q') (a : α) (hI : I a) {ts' : List AV} {h' : Heap}
    (k : (h' = hp a ∧ Wk ts' (fr a)) ∨ (∃ N F, N.Nodup ∧ (∀ j, j < m → N[j]? = some j) ∧ ObjsR h' N F N (hp a) ∧ RsL h' N F ts' (fr a))) : Q' .normal ts' h' := (hj a hI ts' h' k).1

deriving instance DecidableEq for Pkt
theorem ref21_One.a (p q : Pkt) : Pure prog 13 [.agg p.enc, .agg q.enc] (.bool (decide (p = q))) := by
  refine pure_of_vc ref21_One.k (by simp) ?_
  conv => whnf
  repeat' ((first
    | (with_reducible refine hid_mk ?_)
    | (with_reducible refine bcase_not ?_)
    | (with_reducible refine bcase_true (by with_reducible assumption) ?_)
    | (with_reducible refine bcase_false (by with_reducible assumption) ?_)
    | (with_reducible refine bcase_dt (by omega) ?_)
    | (with_reducible refine bcase_df (by omega) ?_)
    | (with_reducible refine bcase_et (by omega) ?_)
    | (with_reducible refine bcase_ef (by omega) ?_)
    | (with_reducible refine bcase_nt (by omega) ?_)
    | (with_reducible refine bcase_nf (by omega) ?_)
    | (with_reducible refine bcase_dec (fun hb => ?_) (fun hb => ?_))
    | (with_reducible refine bcase_beq (fun hb => ?_) (fun hb => ?_))
    | (with_reducible refine bcase_bne (fun hb => ?_) (fun hb => ?_))
    | (with_reducible refine bcase_strT (by first | with_reducible assumption | rfl | (simp; done)) ?_)
    | (with_reducible refine bcase_strF (by first | with_reducible assumption | (simp; done)) ?_)
    | (with_reducible refine bcase_str (fun hb => ?_) (fun hb => ?_))
    | (with_reducible refine bcase_nbT (by omega) ?_)
    | (with_reducible refine bcase_nbF (by omega) ?_)
    | (with_reducible refine bcase_nbeq (fun hb => ?_) (fun hb => ?_))
    | (with_reducible refine bcase_mk (fun hb => ?_) (fun hb => ?_))
    | (with_reducible refine both_mk rfl ?_)
    | (with_reducible refine alts_mk ?_ ?_)
    | (with_reducible refine hx _ _ _ rfl ?_)
    | (with_reducible refine hx2 _ _ _ rfl ?_)
    | (with_reducible refine fin_inl ?_)
    | (with_reducible refine acalls_of_vc ref08_Same.k ?_)
    | (with_reducible refine vblk_same ?_)
    | (with_reducible refine hxb _ _ _ rfl ?_)
    | (with_reducible refine wnum_byU ?_)
    | (with_reducible refine wnum_byI ?_)
    | (with_reducible refine wnum_byB ?_)
    | (with_reducible refine wnum_i64 (by omega) ?_)
    | (with_reducible refine wnum_u64 (by omega) ?_)
    | (with_reducible refine wnum_u8 (by omega) ?_)
    | (with_reducible refine wrem_nn (by omega) ?_)
    | (with_reducible refine wnum_mk ?_)
    | (with_reducible refine wfoc_mapc (by first | with_reducible assumption | omega | (simp; done) | (simp; omega)) ?_)
    | (with_reducible refine wfoc_map (by first | with_reducible assumption | omega | (simp; done) | (simp; omega)) ?_)
    | (with_reducible refine wfoc_flatc (by intro _; with_unfolding_all rfl) (by first | with_reducible assumption | omega | (simp; done) | (simp; omega)) ?_)
    | (with_reducible refine wfoc_flat (by intro _; with_unfolding_all rfl) (by first | with_reducible assumption | omega | (simp; done) | (simp; omega)) ?_)
    | (with_reducible refine wald_mapc (by first | with_reducible assumption | omega | (simp; done) | (simp; omega)) ?_)
    | (with_reducible refine wald_map (by first | with_reducible assumption | omega | (simp; done) | (simp; omega)) ?_)
    | (with_reducible refine wald_flc (by intro _; with_unfolding_all rfl) (by first | with_reducible assumption | omega | (simp; done) | (simp; omega)) (by decide) ?_)
    | (with_reducible refine wald_fl (by intro _; with_unfolding_all rfl) (by first | with_reducible assumption | omega | (simp; done) | (simp; omega)) (by decide) ?_)
    | (with_reducible refine wcat_zero (by omega) ?_)
    | (with_reducible refine wcat_flA0 (by intro _; with_unfolding_all rfl) (by first | with_reducible assumption | omega | (simp; done) | (simp; omega)) ?_)
    | (with_reducible refine wcat_flA (by intro _; with_unfolding_all rfl) (by first | with_reducible assumption | omega | (simp; done) | (simp; omega)) ?_)
    | (with_reducible refine wcat_whole (by first | omega | (simp only [List.length_append, List.length_cons, List.length_nil]; omega) | fail) ?_)
    | (with_reducible refine wast_mapc rfl rfl (by first | with_reducible assumption | omega | (simp; done) | (simp; omega)) ?_)
    | (with_reducible refine wast_map rfl rfl (by first | with_reducible assumption | omega | (simp; done) | (simp; omega)) ?_)
    | (with_reducible refine wrep_int ?_)
    | (with_reducible refine wrep_bool ?_)
    | (with_reducible refine wrep_mk ?_)
    | (with_reducible refine wzero_lt (by omega) ?_)
    | (with_reducible refine wzero_eq (by omega) ?_)
    | (with_reducible refine wcut_all (by first | with_reducible assumption | omega | (simp; done) | (simp; omega)) ?_)
    | (with_reducible refine wcut_map ?_)
    | (with_reducible refine wcat_map (by first | with_reducible assumption | omega | (simp; done) | (simp; omega)) ?_)
    | (with_reducible refine wcat_maps (by omega) ?_)
    | (with_reducible refine wroom_grow (by omega) ?_)
    | (with_reducible refine wroom_in (by omega) ?_)
    | (with_reducible refine wstr_map ?_)
    | (with_reducible refine wstr_nil ?_)
    | (refine wfoc_lit (by decide) rfl ?_)
    | (refine wald_lit rfl ?_)
    | (refine wast_lit rfl ?_)
    | (with_reducible refine wcut_lit ?_)
    | (refine wcat_lit rfl ?_)
    | (with_reducible refine ask_mk (by first | with_reducible assumption | omega | (simp; done) | (simp; omega) | (refine ⟨by first | omega | (simp; done) | (simp; omega), by first | rfl | (simp [AV.isCell]; done) | (simp; omega)⟩)) ?_)
    | (with_reducible refine fin_hb (by kernel_rfl))
    | (with_reducible refine fin_nle (by first | omega | (simp; done) | (simp; omega)))
    | (with_reducible refine fin_nat (by first | omega | (simp; done) | (simp; omega)))
    | (with_reducible refine wzero_split (fun hb => ?_) (fun hb => ?_))
    | (with_reducible refine wroom_split (fun hb => ?_) (fun hb => ?_))
    | (with_reducible refine And.intro (hid_mk (fun hb => ?_)) (hid_mk ?_))
    | (with_reducible refine And.intro (by first | with_reducible assumption | omega | (simp; done) | (simp; omega)) ?_)
    | (with_reducible refine And.intro (fin_el ?_) ?_)) <;> (conv => whnf))
  · refine fin_pure (congrArg AV.bool ?_) (by simp)
    by_cases hq : p.bs = q.bs
    · have : p = q := by cases p; cases q; simp_all
      simp [this]
    · have : p ≠ q := fun e => hq (congrArg Pkt.bs e)
      simp [this, ByteArray.toList_eq, hq]
  · exact fin_pure (congrArg AV.bool (by symm; exact decide_eq_false (fun e => by first | exact absurd (congrArg Pkt.b e) (by assumption) | fail))) (by simp)
  · exact fin_pure (congrArg AV.bool (by symm; exact decide_eq_false (fun e => by first | exact absurd (congrArg Pkt.a e) (by assumption) | fail))) (by simp)
theorem mem_gt {α : Type} [Inhabited α] {l : List α} {p : α} (h : p ∈ l) : ∃ i, i < l.length ∧ gt l i = p := by
  obtain ⟨i, hi, e⟩ := List.mem_iff_getElem.1 h
  exact ⟨i, hi, by rw [gt_eq hi]; exact e⟩

/-- A block of a code. -/
def blkB (n : Nat) : ACode → Option ACode
  | .block i b => if i == n then some b else blkB n b
  | .seq a b => match blkB n a with | some x => some x | none => blkB n b
  | .cond _ a b => match blkB n a with | some x => some x | none => blkB n b
  | .loop b => blkB n b
  | .scope b => blkB n b
  | _ => none
def nhB : ACode := (blkB 2 law21_NetHonest.c).getD .skip
abbrev nhT (ops : List NOp) (j : Nat) (S : List Pkt) : List AV := [nops ops, .wild, .wild, .ptr 0 0, .int .i64 0, slV 2 S, .int .i64 j, .ptr 3 0] ++ List.replicate 13 .wild ++ [.int .i64 j, nops ops, .int .i64 ops.length, .bool (decide ((j : Int) < ops.length)), .wild, .wild, nops ops, .int .i64 j, .iptr (gt ops j).enc 0, .agg (gt ops j).enc, .ptr 3 0, .int .u8 (gt ops j).c] ++ List.replicate 86 .wild
abbrev nhH (ops : List NOp) (j : Nat) (L : List Pkt) (N : NN) (t : Nat) (S : List Pkt) : Heap := [.cells (N.cs 1 L) none, arO L t, arO S 0, .cells (gt ops j).enc none]
abbrev nhJ (ops : List NOp) (j : Nat) (Q2' : Post) : Prop := Joins 0 2 (fun x : HSt => ovr [(5, slV 2 x.S), (6, .int .i64 (j : Int))] (wildAt law21_NetHonest.D0 (hts ops))) (fun x => x.hp) (HOk (j + 1)) Q2'

end Go.Proofs.Ytapgnmigpfcdfaa.C
