/- The operations over the abstract states: append whole, copy, conversions, equality. -/
import Derived.Test.YtginchgkbgcimaaDoorAmem4
namespace Go.Proofs.YtginchgkbgcimaaDoor.AL
open Go Go.RowKit

theorem setMany_append (a b xs : List AV) (h : xs.length ≤ b.length) : setMany (a ++ b) a.length xs = a ++ (xs ++ b.drop xs.length) := by
  induction xs generalizing a b with
  | nil => simp [setMany]
  | cons x xs ih =>
    cases b with
    | nil => simp at h
    | cons c b =>
      have e : (a ++ c :: b).set a.length x = (a ++ [x]) ++ b := by simp
      have := ih (a ++ [x]) b (by simpa using h)
      simp only [setMany, e]
      rw [show a.length + 1 = (a ++ [x]).length by simp, this]
      simp

theorem vcApp_sound {P : Program} {w0 : Guard} {w : World} {σ : Sig} {h : Heap} (s : Sim w0 σ h w) {x y : AV} {vx vy : Value} {size bytes code : Nat} {ts : Array TypeId} {ty : TypeId} {K : Cont} (hc : chkApp P ts size bytes code = true)
    (hx : VR σ x vx) (hy : VR σ y vy) (v : vcApp h x y size bytes code K) : Good w0 σ K ((Builtin.append_ ts ty #[vx, vy]).run P w) := by
  obtain ⟨R⟩ := chkApp_spec hc
  unfold vcApp at v
  replace v := vcSrc_elim v
  obtain ⟨n, new, hs, v⟩ := v
  have hnl := srcOf_len hs
  replace v := vcAppN_old hnl v
  obtain ⟨v0, v1⟩ := v
  by_cases hn : n = 0
  · obtain ⟨vform, vk⟩ := v0 hn
    subst hn
    have hnew : new = [] := by rw [Nat.zero_mul] at hnl; exact List.length_eq_zero_iff.1 hnl
    obtain ⟨base, m, cap, rfl, hmc⟩ : ∃ base m cap, vx = .slice base m cap ∧ m ≤ cap := by
      cases hx with
      | slice _ _ _ _ cap' l hl h1 h2 => exact ⟨_, _, _, rfl, by rcases h2 with rfl | ⟨_, _, q, _⟩ <;> omega⟩
      | sliceE _ a l hl => exact ⟨_, _, _, rfl, Nat.le_refl _⟩
      | islice _ _ _ b o cap c h1 _ _ _ _ => exact ⟨_, _, _, rfl, h1⟩
      | isliceE _ a cap _ _ => exact ⟨_, _, _, rfl, Nat.zero_le _⟩
      | lit u hp =>
        split at vform
        · rename_i e; cases e
        · rename_i e; cases e
        · rename_i e; cases e; exact ⟨_, _, _, rfl, Nat.le_refl _⟩
        · exact vform.elim
      | _ => exact vform.elim
    have := app_inplace (P := P) (ty := ty) s R hs hy (m := m) (cap := cap) (base := base) (by omega) (w' := w) (by
      intro news hnews
      have : news.toList = [] := by have := hnews.len; rw [hnew] at this; exact List.length_eq_zero_iff.1 this.symm
      cases base <;> simp [this, storeCells])
    rw [this]
    exact Good.same s hx vk
  · replace v1 := v1 (by omega)
    split at v1
    · obtain ⟨⟨q1, q2⟩, k⟩ := v1
      cases hx with
      | lit _ hp =>
        have := app_grow (P := P) (ty := ty) s R (vx := .slice none 0 0) (base := none) (m := 0) (cap := 0) (n := n) (old := []) (olds := #[]) (h' := h) (K := K) rfl (by simp [Builtin.firstCells]) (by simpa using VRs.nil σ) (by simp) hs hy (by omega)
          (by simpa using q1) (by simpa using q2) rfl (fun _ _ _ q => q) (fun _ _ _ q => q) (fun _ _ _ _ q => q) (by simpa using k)
        exact this
    · rename_i m old
      obtain ⟨q0, ⟨q1, q2⟩, k⟩ := v1
      obtain ⟨base, cap, rfl, hcap⟩ : ∃ base cap, vx = .slice base m cap ∧ cap = m := by
        cases hx with
        | islice _ _ _ b o cap c _ h2 _ _ _ => exact ⟨_, _, rfl, h2 rfl⟩
        | isliceE _ a cap h1 _ => exact ⟨_, _, rfl, h1 rfl⟩
      have hso : srcOf h size (.islice true m old) = some (m, old) := by
        simp only [srcOf]
        rw [if_pos (by omega), List.take_of_length_le (by omega)]
      obtain ⟨_, hfc⟩ := srcOf_sound (P := P) s.drew hso hx
      obtain ⟨olds, ho1, ho2⟩ := hfc m (Nat.le_refl _)
      rw [List.take_of_length_le (by omega)] at ho2
      exact app_grow (P := P) (ty := ty) s R (h' := h) rfl ho1 ho2 q0.symm hs hy (by omega) q1 q2 rfl (fun _ _ _ q => q) (fun _ _ _ q => q) (fun _ _ _ _ q => q) k
    · rename_i i k len cap
      obtain ⟨cs, opn, hi, v1⟩ := v1
      obtain ⟨⟨q1, q2⟩, vin, vgr⟩ := v1
      have hxx := hx
      cases hx with
      | sliceE _ a l hl =>
        obtain ⟨⟨q3, q4⟩, vk⟩ := vgr (by omega)
        have hso : srcOf h size (.slice i 0 0 0) = some (0, (cs.drop 0).take (0 * size)) := by
          simp only [srcOf, rdObj_some.2 (.inl hi)]
          rw [if_pos q1]
        have hol : ((cs.drop 0).take (0 * size)).length = 0 * size := by simp
        obtain ⟨_, hfc⟩ := srcOf_sound (P := P) s.drew hso hxx
        obtain ⟨olds, ho1, ho2⟩ := hfc 0 (Nat.le_refl _)
        rw [List.take_of_length_le (by omega)] at ho2
        cases opn with
        | none => exact app_grow (P := P) (ty := ty) s R (h' := h) rfl ho1 ho2 hol hs hy (by omega) q3 q4 rfl (fun _ _ _ q => q) (fun _ _ _ q => q) (fun _ _ _ _ q => q) vk
        | some sz =>
          obtain ⟨⟨hsz1, _⟩, vk⟩ := vk
          subst hsz1
          exact app_grow (P := P) (ty := ty) s R (h' := h.set i .dead) rfl ho1 ho2 hol hs hy (by omega) q3 q4 (by simp) (by
            intro j ds o hj
            rw [List.getElem?_set] at hj
            split at hj
            · split at hj <;> simp at hj
            · exact hj) (by
            intro j ds o hj
            rw [List.getElem?_set] at hj
            split at hj
            · split at hj <;> simp at hj
            · exact hj) (by
            intro j c ts st hj
            rw [List.getElem?_set] at hj
            split at hj
            · split at hj <;> simp at hj
            · exact hj) vk
      | slice _ _ _ _ cap' l hl hlen hcap =>
        have hle : cap ≤ cap' := by rcases hcap with rfl | ⟨_, _, q, _⟩ <;> omega
        by_cases hin : len + n ≤ cap
        · obtain ⟨q3, kk⟩ := vin hin
          obtain ⟨_, hfc⟩ := srcOf_sound (P := P) s hs hy
          obtain ⟨news, hn1, hn2⟩ := hfc n (Nat.le_refl _)
          rw [List.take_of_length_le (by omega)] at hn2
          have hfit : k + len * size + new.length ≤ cs.length := by rw [hnl, Nat.add_assoc, ← Nat.add_mul]; exact q3
          obtain ⟨w', hrun, s'⟩ := run_storeCells (P := P) hl new news.toList h w cs (k + len * size) 0 s hn2 q2 hi (by omega)
          have hst : ∀ news' : Array Value, VRs σ new news'.toList → (storeCells (Addr.add ⟨l.b, l.o + k, none⟩ (len * size)) news'.toList).run P w = .ok () w' → True := fun _ _ _ => trivial
          have hrunA : (Builtin.append_ ts ty #[.slice (some ⟨l.b, l.o + k, none⟩) len cap', vy]).run P w = .ok (.slice (some ⟨l.b, l.o + k, none⟩) (len + n) cap') w' := by
            have hlenOf := (srcOf_sound (P := P) s hs hy).1
            obtain ⟨t, u, e, d, z, i', h0, h1, ht, hu, hd, hi', hz, hzs, hss, hb, _, _, _⟩ := R
            subst hss hb
            have hg : len + n ≤ cap' := by omega
            rw [← Nat.add_assoc] at hrun
            rcases hd with ⟨q, rfl⟩ | rfl
            all_goals simp [Builtin.append_, h0, h1, run_underlying ht, run_underlying hu, sizeOf, typeInfo, hi', hlenOf, hg, hn1, Addr.add_lit, hrun]
          rw [hrunA]
          refine ⟨_, _, _, _, _, rfl, ?_, kk, s', .refl σ⟩
          refine .slice i k (len + n) cap cap' l hl hin hcap
        · obtain ⟨⟨q3, q4⟩, vk⟩ := vgr (by omega)
          have hso : srcOf h size (.slice i k len cap) = some (len, (cs.drop k).take (len * size)) := by
            simp only [srcOf, rdObj_some.2 (.inl hi)]
            rw [if_pos q1]
          have hol : ((cs.drop k).take (len * size)).length = len * size := by simp; omega
          by_cases hgr : cap' < len + n
          · -- a new array
            obtain ⟨_, hfc⟩ := srcOf_sound (P := P) s.drew hso hxx
            obtain ⟨olds, ho1, ho2⟩ := hfc len (Nat.le_refl _)
            rw [List.take_of_length_le (by omega)] at ho2
            cases opn with
            | none => exact app_grow (P := P) (ty := ty) s R (h' := h) rfl ho1 ho2 hol hs hy hgr q3 q4 rfl (fun _ _ _ q => q) (fun _ _ _ q => q) (fun _ _ _ _ q => q) vk
            | some sz =>
              obtain ⟨⟨hsz1, _⟩, vk⟩ := vk
              subst hsz1
              exact app_grow (P := P) (ty := ty) s R (h' := h.set i .dead) rfl ho1 ho2 hol hs hy hgr q3 q4 (by simp) (by
                intro j ds o hj
                rw [List.getElem?_set] at hj
                split at hj
                · split at hj <;> simp at hj
                · exact hj) (by
                intro j ds o hj
                rw [List.getElem?_set] at hj
                split at hj
                · split at hj <;> simp at hj
                · exact hj) (by
                intro j c ts st hj
                rw [List.getElem?_set] at hj
                split at hj
                · split at hj <;> simp at hj
                · exact hj) vk
          · -- in place, behind what the abstract object shows
            obtain ⟨sz, hsz1, hsz2, hsz3, hsz4⟩ : ∃ sz, l.opn = some sz ∧ (0 < cap ∧ cap ≤ cap' ∧ 0 < osz sz) ∧ k + cap * osz sz = l.n ∧ k + cap' * osz sz ≤ l.room := by
              rcases hcap with rfl | q
              · omega
              · exact q
            have hqr : Real cs opn := s.real hi hl (by have h9 : 0 < cap * osz sz := Nat.mul_pos hsz2.1 hsz2.2.2; omega)
            have L := s.live i cs opn l hi hqr hl
            have hopn : opn = some sz := by rw [← L.opn, hsz1]
            subst hopn
            obtain ⟨⟨hszz, hk0⟩, vk⟩ := vk
            subst hszz
            have hosz : osz sz = size := R.hc
            rw [hosz] at hsz3 hsz4
            -- the elements' cells, as a further name for the place
            let old := (cs.drop k).take (len * size)
            let l' : Loc := ⟨l.b, l.o + k, l.room - k, (len + n) * size, some sz⟩
            have hroom : (len + n) * size ≤ l.room - k := by
              have : (len + n) * size ≤ cap' * size := Nat.mul_le_mul_right _ (by omega)
              omega
            have sk := s.kill i
            have hkl : (h.set i .dead).length = h.length := by simp
            have hLive : Live w0 (σ.ext h.length l') w (old ++ List.replicate (n * size) .wild) (some sz) l' := by
              obtain ⟨c, e, hb, hcs, hr⟩ := L.blk
              have hlen' : (old ++ List.replicate (n * size) AV.wild).length = (len + n) * size := by
                have : old.length = len * size := hol
                simp [this, Nat.add_mul]
              refine ⟨L.base, L.nofro, by rw [hlen'], rfl, by rw [hlen']; exact hroom, c, e, hb, ⟨by show l.o + k + (l.room - k) ≤ c.size; omega, fun q hq hl => by
                cases hq
                obtain ⟨t1, t2, t3⟩ := hcs.2 _ hsz1 hl
                refine ⟨t1, ?_, fun h0 => ?_⟩
                · show l.o + k = 0; omega
                · have : c.size = l.n := t3 h0
                  show c.size = (len + n) * size
                  rw [hosz] at h0
                  rw [this, ← hsz3, h0]; simp; omega⟩, ?_⟩
              intro j a b ha hb'
              rw [List.getElem?_append] at ha
              split at ha
              · have ha' : (cs.drop k)[j]? = some a := by
                  have : ((cs.drop k).take (len * size))[j]? = some a := ha
                  rw [List.getElem?_take] at this
                  split at this
                  · exact this
                  · simp at this
                rw [List.getElem?_drop] at ha'
                have hb2 : c[l.o + (k + j)]? = some b := by rw [← Nat.add_assoc]; exact hb'
                refine (hr _ a b ha' hb2).mono ?_
                have := sk.le_ext l'
                rw [hkl] at this; exact this
              · rw [List.getElem?_replicate] at ha
                split at ha
                · simp at ha; subst ha; exact .wild _
                · simp at ha
            have hap : ∀ (j : Nat) ds o m, (h.set i .dead)[j]? = some (.cells ds o) → Real ds o → σ.loc j = some m → m.b ≠ l'.b := by
              intro j ds o m hj hqj hm
              rw [List.getElem?_set] at hj
              split at hj
              · split at hj <;> simp at hj
              · rename_i hne
                exact s.apart j i ds cs o (some sz) m l (fun e => hne e.symm) hj hi hqj hqr hm hl
            have sn := sk.name (old ++ List.replicate (n * size) .wild) (some sz) l' (by rw [hkl]; exact hLive) hap
            have le := sk.le_ext l'
            rw [hkl] at sn le
            obtain ⟨_, hfc⟩ := srcOf_sound (P := P) s hs hy
            obtain ⟨news, hn1, hn2⟩ := hfc n (Nat.le_refl _)
            rw [List.take_of_length_le (by omega)] at hn2
            have hloc : (σ.ext h.length l').loc h.length = some l' := if_pos rfl
            have holen : old.length = len * size := hol
            obtain ⟨w', hrun, s'⟩ := run_storeCells (P := P) (i := h.length) hloc new news.toList _ w (old ++ List.replicate (n * size) .wild) (len * size) 0 sn (hn2.mono le) q2 (by rw [List.getElem?_append_right (by rw [hkl]; exact Nat.le_refl _), hkl, Nat.sub_self]; rfl) (by simp [holen, hnl])
            have hrunA : (Builtin.append_ ts ty #[.slice (some ⟨l.b, l.o + k, none⟩) len cap', vy]).run P w = .ok (.slice (some ⟨l.b, l.o + k, none⟩) (len + n) cap') w' := by
              have hlenOf := (srcOf_sound (P := P) s hs hy).1
              obtain ⟨t, u, e, d, z, i', h0, h1, ht, hu, hd, hi', hz, hzs, hss, hb, _, _, _⟩ := R
              subst hb
              have hg : len + n ≤ cap' := by omega
              rw [← hss] at hrun hn1
              rcases hd with ⟨q, rfl⟩ | rfl
              all_goals simp [Builtin.append_, h0, h1, run_underlying ht, run_underlying hu, sizeOf, typeInfo, hi', hlenOf, hg, hn1, Addr.add_lit, hrun, l']
            rw [hrunA]
            have hfin : (h.set i .dead ++ [AObj.cells (old ++ List.replicate (n * size) .wild) (some sz)]).set h.length (.cells (setMany (old ++ List.replicate (n * size) .wild) (len * size + 0) new) (some sz)) = h.set i .dead ++ [.cells (old ++ new) (some sz)] := by
              rw [Nat.add_zero, ← holen, setMany_append _ _ _ (by simp [hnl])]
              rw [List.drop_of_length_le (by simp [hnl]), List.append_nil]
              rw [List.set_append_right _ _ (by rw [hkl]; exact Nat.le_refl _), hkl, Nat.sub_self, List.set_cons_zero]
            rw [hfin] at s'
            refine ⟨_, _, _, _, _, rfl, ?_, vk, s', le⟩
            have := VR.slice (σ := σ.ext h.length l') h.length 0 (len + n) (len + n) cap' l' hloc (Nat.le_refl _) (.inr ⟨sz, rfl, ⟨by omega, by omega, hsz2.2.2⟩, by rw [hosz]; simp [l'], by rw [hosz]; show 0 + cap' * size ≤ l.room - k; omega⟩)
            exact this
    · exact v1.elim

/-! ### copy -/
def vcCopy (h : Heap) (x y : AV) (size : Nat) (K : Cont) : Prop :=
  vcSrc h size y fun n new => match x with
    | .slice i k len _ => withCells h[i]? fun cs opn => ask (new.all AV.isCell = true ∧ k + (min n len) * size ≤ cs.length) (wput cs k (new.take (min n len * size)) fun cs' => withSet h i (.cells cs' opn) (K (.int .i64 (min n len : Nat))))
    | .islice _ 0 _ => K (.int .i64 0) h
    | .lit (.slice none 0 0) => K (.int .i64 0) h
    | _ => False

def chkCopy (P : Program) (ts : Array TypeId) (size : Nat) : Bool := match ts[0]? with | some t => chkElem P t size | none => false

theorem vcCopy_sound {P : Program} {w0 : Guard} {w : World} {σ : Sig} {h : Heap} (s : Sim w0 σ h w) {x y : AV} {vx vy : Value} {size : Nat} {ts : Array TypeId} {ty : TypeId} {K : Cont} (hc : chkCopy P ts size = true)
    (hx : VR σ x vx) (hy : VR σ y vy) (v : vcCopy h x y size K) : Good w0 σ K ((Builtin.copy_ ts ty #[vx, vy]).run P w) := by
  unfold chkCopy at hc
  split at hc
  · rename_i t h0
    obtain ⟨hu, hsz⟩ := chkElem_spec hc
    simp only [chkSize, Bool.and_eq_true, beq_iff_eq] at hsz
    unfold vcCopy at v
    replace v := vcSrc_elim v
    obtain ⟨n, new, hs, v⟩ := v
    have hnl := srcOf_len hs
    obtain ⟨hlen, hfc⟩ := srcOf_sound (P := P) s hs hy
    split at v
    · rename_i i k len cap
      obtain ⟨cs, opn, hi, v⟩ := withCells_elim v
      obtain ⟨⟨q1, q2⟩, k1⟩ := v
      replace k1 := withSet_elim k1.out
      cases hx with
      | sliceE _ a l hl =>
        obtain ⟨news, hn1, hn2⟩ := hfc 0 (Nat.zero_le _)
        have hnil : news.toList = [] := by have := hn2.len; simp at this; exact List.length_eq_zero_iff.1 (by simpa using this.symm)
        have e0 : min n 0 = 0 := Nat.min_zero n
        rw [e0, Nat.zero_mul, List.take_zero, setMany, set_self _ _ _ hi] at k1
        cases a <;> simp [Builtin.copy_, h0, run_underlying hu, run_sizeOf' w hsz.1, hsz.2, hlen, hn1, hnil, storeCells] <;> exact Good.same s (.int _ _) k1
      | slice _ _ _ _ cap' l hl _ _ =>
        obtain ⟨news, hn1, hn2⟩ := hfc (min n len) (Nat.min_le_left _ _)
        have hnl2 : (new.take (min n len * size)).length = min n len * size := by
          have : min n len * size ≤ n * size := Nat.mul_le_mul_right _ (Nat.min_le_left _ _)
          simp; omega
        have hall : (new.take (min n len * size)).all AV.isCell = true := by
          rw [List.all_eq_true] at q1 ⊢
          exact fun a ha => q1 a (List.mem_of_mem_take ha)
        obtain ⟨w', hrun, s'⟩ := run_storeCells (P := P) hl _ news.toList h w cs k 0 s hn2 hall hi (by rw [hnl2]; omega)
        have hrunA : (Builtin.copy_ ts ty #[.slice (some ⟨l.b, l.o + k, none⟩) len cap', vy]).run P w = .ok (goInt (min n len : Nat)) w' := by
          have hmin : Nat.min n len = min n len := rfl
          simp [Builtin.copy_, h0, run_underlying hu, run_sizeOf' w hsz.1, hsz.2, hlen, hmin, hn1, hrun]
        rw [hrunA]
        exact ⟨_, _, _, _, _, rfl, .int _ _, k1, s', .refl σ⟩
    · cases hx with
      | islice _ _ _ b o cap c _ _ _ _ _ =>
        obtain ⟨news, hn1, hn2⟩ := hfc 0 (Nat.zero_le _)
        have hnil : news.toList = [] := by have := hn2.len; simp at this; exact List.length_eq_zero_iff.1 (by simpa using this.symm)
        simp [Builtin.copy_, h0, run_underlying hu, run_sizeOf' w hsz.1, hsz.2, hlen, hn1, hnil, storeCells]
        exact Good.same s (.int _ _) v
      | isliceE _ a cap _ _ =>
        obtain ⟨news, hn1, hn2⟩ := hfc 0 (Nat.zero_le _)
        have hnil : news.toList = [] := by have := hn2.len; simp at this; exact List.length_eq_zero_iff.1 (by simpa using this.symm)
        cases a <;> simp [Builtin.copy_, h0, run_underlying hu, run_sizeOf' w hsz.1, hsz.2, hlen, hn1, hnil, storeCells] <;> exact Good.same s (.int _ _) v
    · cases hx with
      | lit _ _ =>
        obtain ⟨news, hn1, hn2⟩ := hfc 0 (Nat.zero_le _)
        simp [Builtin.copy_, h0, run_underlying hu, run_sizeOf' w hsz.1, hsz.2, hlen, hn1]
        exact Good.same s (.int _ _) v
    · exact v.elim
  · simp at hc

end Go.Proofs.YtginchgkbgcimaaDoor.AL
