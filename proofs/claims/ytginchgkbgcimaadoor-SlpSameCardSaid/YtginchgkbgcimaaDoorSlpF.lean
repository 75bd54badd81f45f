/- Straight-line programs: After. -/
import Derived.Test.YtginchgkbgcimaaDoorSlpE
namespace Go.Proofs.YtginchgkbgcimaaDoor.C
open Go Go.RowKit Go.Proofs.YtginchgkbgcimaaDoor.AL
set_option maxRecDepth 100000
set_option maxHeartbeats 40000000
set_option linter.unusedVariables false
set_option linter.unusedSimpArgs false

def anewI (p q : SProg) (v : Int) : Int := if v < p.n then gt q.outs v.toNat else v - p.n + q.n + q.ops.length
def anewO (p q : SProg) (o : SOp) : SOp := if o.k = 4 then o else ⟨o.k, anewI p q o.a, anewI p q o.b, o.c⟩
def aft (p q : SProg) : SProg := ⟨q.n, q.ops ++ p.ops.map (anewO p q), p.outs.map (anewI p q)⟩
abbrev SProg.oV : AV := .agg [.int .i64 0, .lit (.slice none 0 0), .lit (.slice none 0 0)]

/-- A list of steps as it lies in a program that is made. -/
def slV (i : Nat) (L : List SOp) : AV := if L = [] then .islice true 0 [] else .slice i 0 L.length L.length
abbrev wilds (t : Nat) : List AV := List.replicate t .wild
def arO (L : List SOp) : AObj := if L = [] then .dead else .cells (L.flatMap SOp.enc) (some 4)
theorem slV_nil (i : Nat) : slV i [] = .islice true 0 [] := rfl
theorem arO_nil : arO [] = .dead := rfl
theorem slV_ne {i : Nat} {L : List SOp} (h : L ≠ []) : slV i L = .slice i 0 L.length L.length := if_neg h
theorem arO_ne {L : List SOp} (h : L ≠ []) : arO L = .cells (L.flatMap SOp.enc) (some 4) := if_neg h
theorem slV_snoc (i : Nat) (L : List SOp) (x : SOp) : slV i (L ++ [x]) = .slice i 0 (L.length + 1) (L.length + 1) := by rw [slV_ne (by simp)]; simp
theorem arO_snoc (L : List SOp) (x : SOp) : arO (L ++ [x]) = .cells (L.flatMap SOp.enc ++ x.enc) (some 4) := by rw [arO_ne (by simp)]; simp [List.flatMap_append]

/-- The steps made so far. -/
def mid (p q : SProg) (k : Nat) : List SOp := q.ops ++ (p.ops.take k).map (anewO p q)
theorem mid_zero (p q : SProg) : mid p q 0 = q.ops := by simp [mid]
theorem mid_succ {p q : SProg} {k : Nat} (h : k < p.ops.length) : mid p q (k + 1) = mid p q k ++ [anewO p q (gt p.ops k)] := by
  unfold mid; rw [take_gt h, List.map_append, ← List.append_assoc]; rfl
theorem mid_len {p q : SProg} {k : Nat} (h : k ≤ p.ops.length) : (mid p q k).length = q.ops.length + k := by
  unfold mid; rw [List.length_append, List.length_map, List.length_take]; omega
theorem mid_end {p q : SProg} : mid p q p.ops.length = (aft p q).ops := by simp [mid, aft]
theorem anewO_c {p q : SProg} {o : SOp} (h : o.k = 4) : anewO p q o = ⟨4, o.a, o.b, o.c⟩ := by unfold anewO; rw [if_pos h]; cases o; simp_all
theorem anewO_n {p q : SProg} {o : SOp} {x y : Int} (h : o.k ≠ 4) (h1 : anewI p q o.a = x) (h2 : anewI p q o.b = y) : anewO p q o = ⟨o.k, x, y, o.c⟩ := by unfold anewO; rw [if_neg h, h1, h2]
theorem anewI_lo {p q : SProg} {v : Int} (h : v < p.n) : anewI p q v = gt q.outs v.toNat := if_pos h
theorem anewI_hi0 {p q : SProg} {v : Int} (e : q.ops = []) (h : ¬ v < p.n) : anewI p q v = v - p.n + q.n + ((0 : Nat) : Int) := by unfold anewI; rw [if_neg h, e]; rfl
theorem anewI_hi {p q : SProg} {v : Int} (h : ¬ v < p.n) : anewI p q v = v - p.n + q.n + q.ops.length := if_neg h

set_option maxRecDepth 1000000
theorem slices_CloneOps.e : Pure prog 43 [.islice false 0 []] (.islice true 0 []) := by
  refine pure_of_vc slices_Clone_api_Op_api_Op.k (by simp) ?_
  conv => whnf
  repeat' ((first
    | (with_reducible refine hid_mk ?_)
    | (with_reducible refine bcase_not ?_)
    | (with_reducible refine bcase_true (by with_reducible assumption) ?_)
    | (with_reducible refine bcase_false (by with_reducible assumption) ?_)
    | (with_reducible refine bcase_dt (by omega) ?_)
    | (with_reducible refine bcase_df (by omega) ?_)
    | (with_reducible refine bcase_et (by omega) ?_)
    | (with_reducible refine bcase_ef (by omega) ?_)
    | (with_reducible refine bcase_nt (by omega) ?_)
    | (with_reducible refine bcase_nf (by omega) ?_)
    | (with_reducible refine bcase_dec (fun hb => ?_) (fun hb => ?_))
    | (with_reducible refine bcase_beq (fun hb => ?_) (fun hb => ?_))
    | (with_reducible refine bcase_bne (fun hb => ?_) (fun hb => ?_))
    | (with_reducible refine bcase_strT (by first | with_reducible assumption | rfl | (simp; done) | fail) ?_)
    | (with_reducible refine bcase_strF (by first | with_reducible assumption | decide | (simp; done) | fail) ?_)
    | (with_reducible refine bcase_str (fun hb => ?_) (fun hb => ?_))
    | (with_reducible refine bcase_nbT (by omega) ?_)
    | (with_reducible refine bcase_nbF (by omega) ?_)
    | (with_reducible refine bcase_nbeq (fun hb => ?_) (fun hb => ?_))
    | (with_reducible refine bcase_mk (fun hb => ?_) (fun hb => ?_))
    | (with_reducible refine both_mk rfl ?_)
    | (with_reducible refine alts_mk ?_ ?_)
    | (with_reducible refine hx _ _ _ rfl ?_)
    | (with_reducible refine hx2 _ _ _ rfl ?_)
    | (with_reducible refine fin_inl ?_)
    | (with_reducible refine fin_inlP ?_)
    | (with_reducible refine vblk_same ?_)
    | (with_reducible refine hxb _ _ _ rfl ?_)
    | (with_reducible refine wnum_byU ?_)
    | (with_reducible refine wnum_byI ?_)
    | (with_reducible refine wnum_byB ?_)
    | (with_reducible refine wnum_i64 (by omega) ?_)
    | (with_reducible refine wnum_u64 (by omega) ?_)
    | (with_reducible refine wnum_u8 (by omega) ?_)
    | (with_reducible refine wrem_nn (by omega) ?_)
    | (with_reducible refine wnum_mk ?_)
    | (with_reducible refine wfoc_mapc (by first | with_reducible assumption | omega | (simp; done) | (simp; omega)) ?_)
    | (with_reducible refine wfoc_map (by first | with_reducible assumption | omega | (simp; done) | (simp; omega)) ?_)
    | (with_reducible refine wfoc_flatc (by intro _; with_unfolding_all rfl) (by first | with_reducible assumption | omega | (simp; done) | (simp; omega)) ?_)
    | (with_reducible refine wfoc_flat (by intro _; with_unfolding_all rfl) (by first | with_reducible assumption | omega | (simp; done) | (simp; omega)) ?_)
    | (with_reducible refine wald_mapc (by first | with_reducible assumption | omega | (simp; done) | (simp; omega)) ?_)
    | (with_reducible refine wald_map (by first | with_reducible assumption | omega | (simp; done) | (simp; omega)) ?_)
    | (with_reducible refine wald_flc (by intro _; with_unfolding_all rfl) (by first | with_reducible assumption | omega | (simp; done) | (simp; omega)) (by decide) ?_)
    | (with_reducible refine wald_fl (by intro _; with_unfolding_all rfl) (by first | with_reducible assumption | omega | (simp; done) | (simp; omega)) (by decide) ?_)
    | (with_reducible refine wcat_zero (by omega) ?_)
    | (with_reducible refine wcat_flA0 (by intro _; with_unfolding_all rfl) (by first | with_reducible assumption | omega | (simp; done) | (simp; omega)) ?_)
    | (with_reducible refine wcat_flA (by intro _; with_unfolding_all rfl) (by first | with_reducible assumption | omega | (simp; done) | (simp; omega)) ?_)
    | (with_reducible refine wcat_whole (by first | omega | (simp only [List.length_append, List.length_cons, List.length_nil]; omega) | fail) ?_)
    | (with_reducible refine wast_mapc rfl rfl (by first | with_reducible assumption | omega | (simp; done) | (simp; omega)) ?_)
    | (with_reducible refine wast_map rfl rfl (by first | with_reducible assumption | omega | (simp; done) | (simp; omega)) ?_)
    | (with_reducible refine wrep_int ?_)
    | (with_reducible refine wrep_bool ?_)
    | (with_reducible refine wrep_mk ?_)
    | (with_reducible refine wzero_lt (by omega) ?_)
    | (with_reducible refine wzero_eq (by omega) ?_)
    | (with_reducible refine wcut_all (by first | with_reducible assumption | omega | (simp; done) | (simp; omega)) ?_)
    | (with_reducible refine wcut_map ?_)
    | (with_reducible refine wcat_map (by first | with_reducible assumption | omega | (simp; done) | (simp; omega)) ?_)
    | (with_reducible refine wcat_maps (by first | omega | (simp only [List.length_append, List.length_cons, List.length_nil]; omega)) ?_)
    | (with_reducible refine wroom_grow (by omega) ?_)
    | (with_reducible refine wroom_in (by omega) ?_)
    | (with_reducible refine wstr_map ?_)
    | (with_reducible refine wstr_nil ?_)
    | (refine wfoc_lit (by decide) rfl ?_)
    | (refine wald_lit rfl ?_)
    | (refine wast_lit rfl ?_)
    | (with_reducible refine wcut_lit ?_)
    | (refine wcat_lit rfl ?_)
    | (with_reducible refine ask_mk (by first | with_reducible assumption | omega | (simp; done) | (simp; omega) | (refine ⟨by first | omega | (simp; done) | (simp; omega), by first | rfl | (simp [AV.isCell]; done) | (simp; omega)⟩)) ?_)
    | (with_reducible refine fin_hb (by kernel_rfl))
    | (with_reducible refine fin_nle (by first | omega | (simp; done) | (simp; omega)))
    | (with_reducible refine fin_nat (by first | omega | (simp; done) | (simp; omega)))
    | (with_reducible refine wzero_split (fun hb => ?_) (fun hb => ?_))
    | (with_reducible refine wnz_pos (by omega) ?_)
    | (with_reducible refine wnz_mk (fun hb => ?_) ?_)
    | (with_reducible refine wroom_split (fun hb => ?_) (fun hb => ?_))
    | (with_reducible refine And.intro (hid_mk (fun hb => ?_)) (hid_mk ?_))
    | (with_reducible refine And.intro (by first | with_reducible assumption | omega | (simp; done) | (simp; omega)) ?_)
    | (with_reducible refine And.intro (fin_el ?_) ?_)) <;> (conv => whnf))
  all_goals first | exact fin_rs [] (.nil true) | exact fin_rs [0] (.eslice0 _ _ _ (.inl rfl)) | exact fin_pure rfl (by simp) | fail
abbrev afTs (p : SProg) : List AV := [.wild, .wild, .ptr 0 0, .ptr 1 0, .ptr 2 0, .int .i64 0, .ptr 3 0, .fn (.func 44) [] [.ptr 0 0, .ptr 1 0]] ++ List.replicate 40 .wild ++ [opsV p.ops, .int .i64 p.ops.length] ++ List.replicate 41 .wild
abbrev afH (p q : SProg) (L : List SOp) : Heap := [.cells p.cells none, .cells q.cells none, .cells [.int .i64 0, .lit (.slice none 0 0), .lit (.slice none 0 0)] none, .cells [.int .i64 q.n, slV 4 L, .lit (.slice none 0 0)] none, arO L]


/-- Lists that are answered. -/
theorem rs_ops {h : Heap} {N F : List Nat} {i n cap : Nat} {op : Option Nat} {L M : List SOp} {cs : List AV} (e : L = M) (hi : i ∈ F) (h1 : h[i]? = some (.cells cs op)) (hcs : cs = L.flatMap SOp.enc) (hn : n = L.length := by rfl) : Rs h N F (.slice i 0 n cap) (opsV M) := by
  subst e hn hcs
  refine Rs.fsliceL (k := 0) (m := (L.flatMap SOp.enc).length) hi (.inl h1) (by simp) ?_ (by cases L <;> simp [Real, SOp.enc])
  rw [List.drop_zero, List.take_length]
  refine .same fun x hx => ?_
  obtain ⟨p, _, hp⟩ := List.mem_flatMap.1 hx
  simp at hp
  rcases hp with rfl | rfl | rfl | rfl <;> simp
theorem rs_opsE {h : Heap} {N F : List Nat} {ex : Bool} {M : List SOp} (e : [] = M) : Rs h N F (.islice ex 0 []) (opsV M) := by
  subst e; exact .islice _ _ _ _ _ (fun q => by cases q) rfl (by intro j x y q; simp at q)
theorem rs_nilO {h : Heap} {N F : List Nat} {M : List Int} (e : [] = M) : Rs h N F (.lit (.slice none 0 0)) (i64s M) := by subst e; exact .nil false
theorem rs_ownO {h : Heap} {N F : List Nat} {i n cap : Nat} {op : Option Nat} {O M : List Int} {cs : List AV} (e : O = M) (hi : i ∈ F) (h1 : h[i]? = some (.cells cs op)) (hcs : cs = O.map (AV.int .i64) := by rfl) (hn : n = O.length := by rfl) : Rs h N F (.slice i 0 n cap) (i64s M) := by
  subst e; exact rs_slice hi h1 hcs hn (by simp)

end Go.Proofs.YtginchgkbgcimaaDoor.C
