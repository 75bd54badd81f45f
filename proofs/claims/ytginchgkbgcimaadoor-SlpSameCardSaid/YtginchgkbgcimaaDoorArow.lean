/- What a law's arguments are, as abstract values; what a law's row asks of its walk. -/
import Derived.Test.YtginchgkbgcimaaDoorAwalk
import Derived.Test.YtginchgkbgcimaaDoorRows
import Derived.WalkKit
import Derived.ProofKit
import Derived.OpenShut
import Derived.JoinedCond
import Derived.Carry
import Derived.SizedLaws
namespace Go.Proofs.YtginchgkbgcimaaDoor.AL
open Go Go.RowKit Go.ChangeShapes Go.WideShapes Go.ChangeAt

def TyOkL (R : TypeId → List AV → Nat → Prop) : List TypeId → List AV → Nat → Prop
  | [], cz, _ => cz = []
  | t :: ts, cz, b => ∃ a1 b1 a2 b2, R t a1 b1 ∧ TyOkL R ts a2 b2 ∧ cz = a1 ++ a2 ∧ b1 + b2 ≤ b

/-- Cells that a value of a type may have; of what bulk it is at most. -/
def TyOk (P : Program) : Nat → TypeId → List AV → Nat → Prop
  | 0, _, _, _ => False
  | f + 1, t, cz, b =>
    match P.underlying t with
    | some .bool => ∃ x, cz = [.bool x]
    | some (.int k) => ∃ n, cz = [.int k n] ∧ (Lit.int k n).wf = true
    | some .string => ∃ s, cz = [.str s] ∧ s.size ≤ reachBytes ∧ s.size < b
    | some (.slice e) => ∃ els : List (List AV × Nat), cz = [.islice false els.length (els.map (·.1)).flatten] ∧ (∀ x ∈ els, TyOk P f e x.1 x.2) ∧ (els.map (·.2)).sum < b ∧ els.length < b ∧ (els.length * P.bytesOf e ≤ reachBytes ∨ els.length < 1048576)
    | some (.struct fs) => TyOkL (TyOk P f) (fs.toList.map (·.type)) cz b
    | some (.array n e) => TyOkL (TyOk P f) (List.replicate n e) cz b
    | _ => False

def tyFine (P : Program) : Nat → TypeId → Bool
  | 0, _ => false
  | f + 1, t =>
    match P.underlying t with
    | some .bool | some (.int _) | some .string => true
    | some (.slice e) => decide (0 < P.cellsOf e) && tyFine P f e
    | some (.struct fs) => fs.toList.all fun fd => tyFine P f fd.type
    | some (.array _ e) => tyFine P f e
    | _ => false

theorem list_of_all {α : Type} {p : Nat → α → Prop} (n : Nat) (h : ∀ i, i < n → ∃ x, p i x) : ∃ l : List α, l.length = n ∧ ∀ i x, l[i]? = some x → p i x := by
  induction n with
  | zero => exact ⟨[], rfl, by intro i x q; simp at q⟩
  | succ n ih =>
    obtain ⟨l, hl, hp⟩ := ih fun i hi => h i (by omega)
    obtain ⟨x, hx⟩ := h n (by omega)
    refine ⟨l ++ [x], by simp [hl], ?_⟩
    intro i y hy
    rw [List.getElem?_append] at hy
    split at hy
    · exact hp i y hy
    · have hi : i - l.length = 0 := by
        cases q : i - l.length with
        | zero => rfl
        | succ m => rw [q] at hy; simp at hy
      rw [hi] at hy; simp at hy; subst hy
      have : i = n := by omega
      subst this; exact hx

theorem one_le_bulk {H : Type} (d : DataW H) : 1 ≤ Rows.uptoBulk d := by
  cases d with
  | lit l => cases l <;> simp [Rows.uptoBulk]
  | nil => simp [Rows.uptoBulk]
  | ptr d => simp [Rows.uptoBulk]
  | slice elems spare => simp [Rows.uptoBulk]
  | agg parts => simp [Rows.uptoBulk]
  | iface t d => simp [Rows.uptoBulk]
  | map entries => simp [Rows.uptoBulk]
  | held h => simp [Rows.uptoBulk]

theorem VRs.chunks {σ : Sig} : ∀ (L : List (Nat × List AV)) (cs : List Value), cs.length = (L.map (·.1)).sum → (∀ (j : Nat) p, L[j]? = some p → VRs σ p.2 ((cs.drop ((L.take j).map (·.1)).sum).take p.1)) → VRs σ (L.map (·.2)).flatten cs
  | [], cs, hl, _ => by
    have : cs = [] := List.length_eq_zero_iff.1 (by simpa using hl)
    subst this; exact .nil σ
  | p :: L, cs, hl, h => by
    simp only [List.map_cons, List.flatten_cons, List.sum_cons] at hl ⊢
    have h0 := h 0 p rfl
    simp only [List.take_zero, List.map_nil, List.sum_nil, List.drop_zero] at h0
    have ht := VRs.chunks L (cs.drop p.1) (by simp; omega) (by
      intro j q hq
      have := h (j + 1) q (by simpa using hq)
      simp only [List.take_succ_cons, List.map_cons, List.sum_cons] at this
      rw [List.drop_drop]; exact this)
    have := VRs.append h0 ht
    rwa [List.take_append_drop] at this

section
variable {H : Type} {enc : TypeId × Value → H} {P : Program} {w : World} {σ : Sig}

theorem tyOkL_mk {R : TypeId → List AV → Nat → Prop} : ∀ (ts : List TypeId) (L : List (List AV × Nat)), L.length = ts.length → (∀ (j : Nat) t x, ts[j]? = some t → L[j]? = some x → R t x.1 x.2) → TyOkL R ts (L.map (·.1)).flatten (L.map (·.2)).sum
  | [], L, hl, _ => by
    have : L = [] := List.length_eq_zero_iff.1 (by simpa using hl)
    subst this; simp [TyOkL]
  | t :: ts, L, hl, h => by
    cases L with
    | nil => simp at hl
    | cons x L =>
      refine ⟨x.1, x.2, _, _, h 0 t x rfl rfl, tyOkL_mk ts L (by simpa using hl) (fun j t' y a b => h (j + 1) t' y (by simpa using a) (by simpa using b)), ?_, ?_⟩
      · simp
      · simp

theorem bulkAll_eq (l : List (DataW H)) : Rows.uptoBulkAll l = (l.map Rows.uptoBulk).sum := by
  induction l with
  | nil => simp [Rows.uptoBulkAll]
  | cons x l ih => simp [Rows.uptoBulkAll, ih]

theorem bulk_len (l : List (DataW H)) : l.length ≤ Rows.uptoBulkAll l := by
  induction l with
  | nil => simp
  | cons x l ih => have := one_le_bulk x; simp only [Rows.uptoBulkAll, List.length_cons]; omega

theorem sum_eq_of_get {α β : Type} (f : α → Nat) (g : β → Nat) : ∀ (l : List α) (m : List β), l.length = m.length → (∀ (i : Nat) x y, l[i]? = some x → m[i]? = some y → f x = g y) → (l.map f).sum = (m.map g).sum
  | [], [], _, _ => rfl
  | [], _ :: _, h, _ => by simp at h
  | _ :: _, [], h, _ => by simp at h
  | x :: l, y :: m, h, q => by
    simp only [List.map_cons, List.sum_cons]
    rw [q 0 x y rfl rfl, sum_eq_of_get f g l m (by simpa using h) fun i a b c d => q (i + 1) a b (by simpa using c) (by simpa using d)]

/-- Nothing in it is greater than what a process can address, or it is small. -/
def Fits (P : Program) (t : TypeId) (d : DataW H) : Prop := (∀ n ∈ d.weights P t, n ≤ reachBytes) ∨ Rows.uptoBulk d ≤ 1048576
theorem weightsAll_mem {e : TypeId} {el : DataW H} {n : Nat} : ∀ {l : List (DataW H)}, el ∈ l → n ∈ el.weights P e → n ∈ DataW.weightsAll P e l
  | [], h, _ => by simp at h
  | d :: l, h, hn => by
    simp only [DataW.weightsAll, List.mem_append]
    rcases List.mem_cons.1 h with rfl | h
    · exact .inl hn
    · exact .inr (weightsAll_mem h hn)
theorem bulk_mem {el : DataW H} : ∀ {l : List (DataW H)}, el ∈ l → Rows.uptoBulk el ≤ Rows.uptoBulkAll l
  | [], h => by simp at h
  | d :: l, h => by
    simp only [Rows.uptoBulkAll]
    rcases List.mem_cons.1 h with rfl | h
    · omega
    · have := bulk_mem h; omega
theorem fits_slice {t e : TypeId} {elems spare : List (DataW H)} (hu : P.underlying t = some (.slice e)) (h : Fits P t (.slice elems spare)) : (∀ el ∈ elems, Fits P e el) ∧ (elems.length * P.bytesOf e ≤ reachBytes ∨ elems.length < 1048576) := by
  rcases h with h | h
  · simp only [DataW.weights, hu] at h
    refine ⟨fun el hel => .inl fun n hn => h n (List.mem_cons_of_mem _ (List.mem_append_left _ (weightsAll_mem hel hn))), .inl ?_⟩
    have := h _ List.mem_cons_self
    exact Nat.le_trans (Nat.mul_le_mul_right _ (Nat.le_add_right _ _)) this
  · simp only [Rows.uptoBulk] at h
    refine ⟨fun el hel => .inr (by have := bulk_mem hel; omega), .inr ?_⟩
    have := bulk_len elems
    omega
theorem fits_struct {t : TypeId} {fs : Array Field} {parts : List (DataW H)} (hu : P.underlying t = some (.struct fs)) (h : Fits P t (.agg parts)) {j : Nat} {fd : Field} {d : DataW H} (hf : fs.toList[j]? = some fd) (hd : parts[j]? = some d) : Fits P fd.type d := by
  rcases h with h | h
  · simp only [DataW.weights, hu] at h
    exact .inl fun n hn => h n (DataW.weights_mem_each (by rw [List.getElem?_map, hf]; rfl) hd n hn)
  · simp only [Rows.uptoBulk] at h
    exact .inr (by have := bulk_mem (List.mem_of_getElem? hd); omega)
theorem fits_array {t e : TypeId} {n : Nat} {parts : List (DataW H)} (hu : P.underlying t = some (.array n e)) (h : Fits P t (.agg parts)) {d : DataW H} (hd : d ∈ parts) : Fits P e d := by
  rcases h with h | h
  · simp only [DataW.weights, hu] at h
    exact .inl fun n hn => h n (weightsAll_mem hd hn)
  · simp only [Rows.uptoBulk] at h
    exact .inr (by have := bulk_mem hd; omega)
theorem fits_string {t : TypeId} {bytes : List UInt8} (h : Fits P t (.lit (.string bytes) : DataW H)) : bytes.length ≤ reachBytes := by
  rcases h with h | h
  · exact h _ (by simp [DataW.weights])
  · simp only [Rows.uptoBulk] at h
    have : 1048576 ≤ reachBytes := by decide
    omega

/-- What is read as data, as abstract cells. -/
theorem trod_ty (hl : laidOutB P = true) (hfro : ∀ b c e fr, w.heap[b]? = some (.cells c e fr) → σ.fro b = some c) : ∀ (F : Nat) (t : TypeId) (fuel : Nat) (cs : List Value) (x : DataW H × List MemPlace), tyFine P F t = true → t < P.types.size →
    DataW.trod enc P w 0 (fun _ => true) true fuel t cs = some x → Fits P t x.1 → ∃ cz, TyOk P F t cz (Rows.uptoBulk x.1) ∧ VRs σ cz cs := by
  intro F
  induction F with
  | zero => intro t fuel cs x h; simp [tyFine] at h
  | succ F ih =>
    intro t fuel cs x hfine hrow h hfits
    unfold tyFine at hfine
    unfold TyOk
    split at hfine
    · rename_i hu
      obtain ⟨b, rfl, rfl⟩ := DataW.trod_bool hu h
      try simp only [hu]
      exact ⟨_, ⟨b, rfl⟩, .cons (.bool b) (.nil σ)⟩
    · rename_i k hu
      obtain ⟨n, rfl, rfl, hwf⟩ := DataW.trod_int hu h
      try simp only [hu]
      exact ⟨_, ⟨n, rfl, hwf⟩, .cons (.int k n) (.nil σ)⟩
    · rename_i hu
      obtain ⟨s, rfl, rfl, hs⟩ := DataW.trod_string hu h
      try simp only []
      have : s.data.toList.length = s.size := by first | rfl | simp
      refine ⟨_, ⟨s, rfl, by have := fits_string hfits; omega, ?_⟩, .cons (.str s) (.nil σ)⟩
      simp only [Rows.uptoBulk, this]; try omega
    · rename_i e hu
      simp only [Bool.and_eq_true, decide_eq_true_eq] at hfine
      obtain ⟨hpos, hfe⟩ := hfine
      have he := kid_slice hl hrow hu
      try simp only [hu]
      rcases DataW.trod_slice hu h with ⟨rfl, rfl⟩ | ⟨a, len, cap, elems, rest, n, rfl, rfl, rfl, _, hlc, hcm, hel, hget, _, _⟩
      · exact ⟨_, ⟨[], rfl, by intro x q; simp at q, by simp [Rows.uptoBulk], by simp [Rows.uptoBulk], .inr (by simp)⟩, .cons (.isliceE false none 0 (by intro q; cases q) (fun _ => rfl)) (.nil σ)⟩
      · obtain ⟨hfel, hflen⟩ := fits_slice hu hfits
        have each : ∀ i, i < len → ∃ y : List AV × Nat, (∃ el, elems[i]? = some el ∧ y.2 = Rows.uptoBulk el.1 ∧ TyOk P F e y.1 y.2) ∧ ∃ cs', w.cells? 0 (a.add (i * P.cellsOf e)) (P.cellsOf e) = some cs' ∧ VRs σ y.1 cs' := by
          intro i hi
          have hg := hget i hi
          have hlt : i < elems.length := by omega
          rw [List.getElem?_eq_getElem hlt] at hg
          obtain ⟨cs', h1, h2⟩ := Option.bind_eq_some_iff.1 hg
          obtain ⟨cz, h3, h4⟩ := ih e n cs' elems[i] hfe he h2 (hfel _ (List.mem_map.2 ⟨elems[i], List.getElem_mem hlt, rfl⟩))
          exact ⟨(cz, Rows.uptoBulk elems[i].1), ⟨elems[i], List.getElem?_eq_getElem hlt, rfl, h3⟩, cs', h1, h4⟩
        obtain ⟨els, hlen, hels⟩ := list_of_all len each
        have hbulk : (els.map (·.2)).sum = Rows.uptoBulkAll (elems.map (·.1)) := by
          rw [bulkAll_eq, List.map_map]
          refine sum_eq_of_get _ _ els elems (by omega) ?_
          intro i y el hy he'
          obtain ⟨⟨el', q1, q2, _⟩, _⟩ := hels i y hy
          rw [he'] at q1; cases q1; exact q2
        refine ⟨[.islice false els.length (els.map (·.1)).flatten], ⟨els, rfl, ?_, ?_, ?_, ?_⟩, ?_⟩
        · intro y hy
          obtain ⟨i, hi, rfl⟩ := List.mem_iff_getElem.1 hy
          obtain ⟨⟨_, _, _, q⟩, _⟩ := hels i els[i] (List.getElem?_eq_getElem hi)
          exact q
        · rw [hbulk]; simp only [Rows.uptoBulk]; omega
        · have := bulk_len (elems.map (·.1))
          simp only [Rows.uptoBulk, List.length_map] at *; omega
        · rw [List.length_map] at hflen
          have hle : els.length = elems.length := by omega
          rw [hle]
          exact hflen
        · refine .cons ?_ (.nil σ)
          by_cases h0 : len = 0
          · have : els = [] := List.length_eq_zero_iff.1 (by omega)
            subst this
            rw [h0]
            exact .isliceE false (some a) cap (by intro q; cases q) (by intro q; cases q)
          · -- the block
            obtain ⟨c, ty, fr, hblk, hspot⟩ : ∃ c ty fr, w.heap[a.block]? = some (.cells c ty fr) ∧ a.spot = none := by
              obtain ⟨y0, _, cs0, hc0, _⟩ := each 0 (by omega)
              unfold World.cells? at hc0
              rw [if_pos (Nat.zero_le _)] at hc0
              have hlen' := mapM_some_length hc0
              have hg := mapM_some_get hc0 0 0 (by simp [hpos])
              rw [Nat.zero_mul, Addr.add_zero', Addr.add_zero', List.getElem?_eq_getElem (by simp at hlen'; omega)] at hg
              unfold World.cell? at hg
              split at hg
              · rename_i c ty fr hb
                cases hs : a.spot with
                | none => exact ⟨c, ty, fr, hb, rfl⟩
                | some q => simp [hs] at hg
              · cases hg
            obtain ⟨ab, ao, asp⟩ := a
            simp only at hspot hblk
            subst hspot
            have csz : ∀ {i : Nat} {cs' : List Value}, w.cells? 0 (Addr.add ⟨ab, ao, none⟩ (i * P.cellsOf e)) (P.cellsOf e) = some cs' → cs'.length = P.cellsOf e ∧ ∀ j, j < P.cellsOf e → w.cell? (Addr.add ⟨ab, ao, none⟩ (i * P.cellsOf e + j)) = cs'[j]? := by
              intro i cs' hc
              unfold World.cells? at hc
              rw [if_pos (Nat.zero_le _)] at hc
              have hlen' := mapM_some_length hc
              refine ⟨by simpa using hlen', fun j hj => ?_⟩
              have := mapM_some_get hc j j (by simp [hj])
              rw [← this]
              simp only [Addr.add_lit, Nat.add_assoc]
            have hcell : ∀ k, w.cell? (Addr.add ⟨ab, ao, none⟩ k) = c[ao + k]? := by
              intro k; simp [World.cell?, Addr.add_lit, hblk]
            have hyl : ∀ (i : Nat) y, els[i]? = some y → y.1.length = P.cellsOf e ∧ ∀ (r : Nat) z v, y.1[r]? = some z → c[ao + (i * P.cellsOf e + r)]? = some v → VR σ z v := by
              intro i y hy
              obtain ⟨_, cs', hc', hv⟩ := hels i y hy
              obtain ⟨q1, q2⟩ := csz hc'
              refine ⟨by rw [hv.len, q1], ?_⟩
              intro r z v hz hvv
              have hr : r < P.cellsOf e := by rw [← q1, ← hv.len]; exact (List.getElem?_eq_some_iff.1 hz).1
              have := q2 r hr
              rw [hcell, hvv] at this
              exact hv.at_ r z v hz this.symm
            have flat : ∀ (E : List (List AV × Nat)) (s : Nat), 0 < s → (∀ y ∈ E, y.1.length = s) → ((E.map (·.1)).flatten).length = E.length * s ∧ ∀ (j : Nat) z, ((E.map (·.1)).flatten)[j]? = some z → ∃ y, E[j / s]? = some y ∧ y.1[j % s]? = some z := by
              intro E s hs hE
              induction E with
              | nil => exact ⟨by simp, by intro j z q; simp at q⟩
              | cons y E ihE =>
                obtain ⟨k1, k2⟩ := ihE fun z hz => hE z (List.mem_cons_of_mem _ hz)
                have hy := hE y List.mem_cons_self
                refine ⟨by simp only [List.map_cons, List.flatten_cons, List.length_append, k1, hy, List.length_cons, Nat.add_mul]; omega, ?_⟩
                intro j z hz
                simp only [List.map_cons, List.flatten_cons] at hz
                rw [List.getElem?_append] at hz
                split at hz
                · rename_i hj
                  rw [hy] at hj
                  exact ⟨y, by rw [Nat.div_eq_of_lt hj]; rfl, by rw [Nat.mod_eq_of_lt hj]; exact hz⟩
                · rename_i hj
                  rw [hy] at hj hz
                  obtain ⟨y', q1, q2⟩ := k2 _ z hz
                  refine ⟨y', ?_, ?_⟩
                  · rw [show j / s = (j - s) / s + 1 by rw [Nat.div_eq j s, if_pos ⟨hs, by omega⟩]]
                    exact q1
                  · rw [Nat.mod_eq_sub_mod (by omega)]; exact q2
            obtain ⟨fl1, fl2⟩ := flat els (P.cellsOf e) hpos (by
              intro y hy
              obtain ⟨i, hi, rfl⟩ := List.mem_iff_getElem.1 hy
              exact (hyl i _ (List.getElem?_eq_getElem hi)).1)
            have hsize : ao + len * P.cellsOf e ≤ c.size := by
              obtain ⟨y, _, cs', hc', _⟩ := each (len - 1) (by omega)
              obtain ⟨q1, q2⟩ := csz hc'
              have := q2 (P.cellsOf e - 1) (by omega)
              rw [List.getElem?_eq_getElem (by omega), hcell] at this
              have hlt := (Array.getElem?_eq_some_iff.1 this).1
              have : (len - 1) * P.cellsOf e + P.cellsOf e = len * P.cellsOf e := by rw [← Nat.succ_mul]; congr 1; omega
              omega
            rw [hlen]
            refine .islice false len _ ab ao cap c hlc (by intro q; cases q) (hfro _ _ _ _ hblk) (by rw [fl1, hlen]; exact hsize) ?_
            intro j z v hz hv
            obtain ⟨y, q1, q2⟩ := fl2 j z hz
            refine (hyl _ y q1).2 _ z v q2 ?_
            rw [Nat.mul_comm, Nat.div_add_mod]; exact hv
    · rename_i fs hu
      obtain ⟨hkt, hsz, hoff⟩ := kid_struct hl hrow hu
      obtain ⟨xs, n, rfl, rfl, hlen, hxl, hget⟩ := DataW.trod_struct hu h
      try simp only []
      have each : ∀ j, j < fs.toList.length → ∃ y : List AV × Nat, ∀ fd, fs.toList[j]? = some fd → ∃ z, xs[j]? = some z ∧ y.2 = Rows.uptoBulk z.1 ∧ TyOk P F fd.type y.1 y.2 ∧ VRs σ y.1 ((cs.drop fd.offset).take (P.cellsOf fd.type)) := by
        intro j hj
        have hfd : fs.toList[j]? = some fs.toList[j] := List.getElem?_eq_getElem hj
        have hg := hget j fs.toList[j] (by rw [← Array.getElem?_toList]; exact hfd)
        have hj' : j < xs.length := by rw [hxl]; simpa using hj
        rw [List.getElem?_eq_getElem hj'] at hg
        have hmem : fs.toList[j] ∈ fs.toList := List.getElem_mem hj
        obtain ⟨cz, h1, h2⟩ := ih _ n _ xs[j] (List.all_eq_true.1 hfine _ hmem) (hkt _ hmem) hg (fits_struct hu hfits hfd (by rw [List.getElem?_map, List.getElem?_eq_getElem hj']; rfl))
        exact ⟨(cz, Rows.uptoBulk xs[j].1), fun fd q => by rw [hfd] at q; cases q; exact ⟨xs[j], List.getElem?_eq_getElem hj', rfl, h1, h2⟩⟩
      obtain ⟨L, hL, hLp⟩ := list_of_all _ each
      have hb : (L.map (·.2)).sum = Rows.uptoBulkAll (xs.map (·.1)) := by
        rw [bulkAll_eq, List.map_map]
        refine sum_eq_of_get _ _ L xs (by rw [hL, hxl]; simp) ?_
        intro i y z hy hz
        have hi : i < fs.toList.length := by rw [← hL]; exact (List.getElem?_eq_some_iff.1 hy).1
        obtain ⟨z', q1, q2, _⟩ := hLp i y hy _ (List.getElem?_eq_getElem hi)
        rw [hz] at q1; cases q1; exact q2
      refine ⟨(L.map (·.1)).flatten, ?_, ?_⟩
      · have hm := tyOkL_mk (R := TyOk P F) (fs.toList.map (·.type)) L (by simp [hL]) (by
          intro j t' y ht hy
          rw [List.getElem?_map, Option.map_eq_some_iff] at ht
          obtain ⟨fd, hfd, rfl⟩ := ht
          obtain ⟨_, _, _, q, _⟩ := hLp j y hy fd hfd
          exact q)
        have mono : ∀ (ts : List TypeId) (cz : List AV) (b b' : Nat), b ≤ b' → TyOkL (TyOk P F) ts cz b → TyOkL (TyOk P F) ts cz b' := by
          intro ts cz b b' hbb q
          cases ts with
          | nil => exact q
          | cons t ts => obtain ⟨a1, b1, a2, b2, q1, q2, q3, q4⟩ := q; exact ⟨a1, b1, a2, b2, q1, q2, q3, by omega⟩
        refine mono _ _ _ _ ?_ hm
        rw [hb]; simp only [Rows.uptoBulk]; omega
      · have hz : (L.map (·.1)).flatten = (((fs.toList.map fun f => P.cellsOf f.type).zip (L.map (·.1))).map (·.2)).flatten := by
          rw [List.map_snd_zip]; simp [hL]
        rw [hz]
        refine VRs.chunks _ cs ?_ ?_
        · rw [List.map_fst_zip (by simp [hL]), hlen, hsz]
        · intro j p hp
          rw [List.getElem?_zip_eq_some] at hp
          obtain ⟨hp1, hp2⟩ := hp
          rw [List.getElem?_map, Option.map_eq_some_iff] at hp1 hp2
          obtain ⟨fd, hfd, e1⟩ := hp1
          obtain ⟨y, hy, e2⟩ := hp2
          obtain ⟨_, _, _, _, q⟩ := hLp j y hy fd hfd
          have : (((fs.toList.map fun f => P.cellsOf f.type).zip (L.map (·.1))).take j).map (·.1) = (fs.toList.take j).map fun f => P.cellsOf f.type := by
            rw [List.map_take, List.map_fst_zip (by simp [hL]), List.map_take]
          rw [this, ← hoff j fd hfd, ← e1, ← e2]
          exact q
    · rename_i n e hu
      obtain ⟨hke, hsz⟩ := kid_array hl hrow hu
      obtain ⟨xs, m, rfl, rfl, hlen, hxl, hget⟩ := DataW.trod_array hu h
      try simp only []
      have each : ∀ j, j < n → ∃ y : List AV × Nat, ∃ z, xs[j]? = some z ∧ y.2 = Rows.uptoBulk z.1 ∧ TyOk P F e y.1 y.2 ∧ VRs σ y.1 ((cs.drop (j * P.cellsOf e)).take (P.cellsOf e)) := by
        intro j hj
        have hg := hget j hj
        have hj' : j < xs.length := by omega
        rw [List.getElem?_eq_getElem hj'] at hg
        obtain ⟨cz, h1, h2⟩ := ih _ m _ xs[j] hfine hke hg (fits_array hu hfits (List.mem_map.2 ⟨xs[j], List.getElem_mem hj', rfl⟩))
        exact ⟨(cz, Rows.uptoBulk xs[j].1), xs[j], List.getElem?_eq_getElem hj', rfl, h1, h2⟩
      obtain ⟨L, hL, hLp⟩ := list_of_all _ each
      have hb : (L.map (·.2)).sum = Rows.uptoBulkAll (xs.map (·.1)) := by
        rw [bulkAll_eq, List.map_map]
        refine sum_eq_of_get _ _ L xs (by omega) ?_
        intro i y z hy hz
        obtain ⟨z', q1, q2, _⟩ := hLp i y hy
        rw [hz] at q1; cases q1; exact q2
      refine ⟨(L.map (·.1)).flatten, ?_, ?_⟩
      · have hm := tyOkL_mk (R := TyOk P F) (List.replicate n e) L (by simp [hL]) (by
          intro j t' y ht hy
          rw [List.getElem?_replicate] at ht
          split at ht
          · cases ht
            obtain ⟨_, _, _, q, _⟩ := hLp j y hy
            exact q
          · cases ht)
        have mono : ∀ (ts : List TypeId) (cz : List AV) (b b' : Nat), b ≤ b' → TyOkL (TyOk P F) ts cz b → TyOkL (TyOk P F) ts cz b' := by
          intro ts cz b b' hbb q
          cases ts with
          | nil => exact q
          | cons t ts => obtain ⟨a1, b1, a2, b2, q1, q2, q3, q4⟩ := q; exact ⟨a1, b1, a2, b2, q1, q2, q3, by omega⟩
        refine mono _ _ _ _ ?_ hm
        rw [hb]; simp only [Rows.uptoBulk]; omega
      · have hz : (L.map (·.1)).flatten = (((List.replicate n (P.cellsOf e)).zip (L.map (·.1))).map (·.2)).flatten := by
          rw [List.map_snd_zip]; simp [hL]
        rw [hz]
        refine VRs.chunks _ cs ?_ ?_
        · rw [List.map_fst_zip (by simp [hL]), hlen, hsz]; simp
        · intro j p hp
          rw [List.getElem?_zip_eq_some] at hp
          obtain ⟨hp1, hp2⟩ := hp
          rw [List.getElem?_map, Option.map_eq_some_iff] at hp2
          obtain ⟨y, hy, e2⟩ := hp2
          rw [List.getElem?_replicate] at hp1
          split at hp1
          · rename_i hj
            obtain ⟨_, _, _, _, q⟩ := hLp j y hy
            have : ((((List.replicate n (P.cellsOf e)).zip (L.map (·.1))).take j).map (·.1)).sum = j * P.cellsOf e := by
              rw [List.map_take, List.map_fst_zip (by simp [hL]), List.take_replicate, Nat.min_eq_left (by omega)]
              simp
            rw [this, ← e2]
            injection hp1 with hp1; rw [← hp1]; exact q
          · cases hp1
    · simp at hfine
end

/-! ### a law's row -/
section
variable {H : Type} {enc : TypeId × Value → H} {P : Program}

/-- The row's post, where of what was there nothing has turned. -/
theorem post_below {f : Func} {s : ChangeSpec} {apart fresh handsOn again : Bool} {W W' : World} {args : Array Value} {v : Value} {ds gs : List (DataW H)} {before pa pv : List MemPlace}
    (hW : DataW.Whole enc P f.params.toList s.vars apart W args.toList ds gs before)
    (hres : ∀ (b : Nat) (sp : Nat → Bool) (hd : Bool), DataW.TrodAll enc P W' b sp hd f.resultTypes.toList (v.resultList f.resultTypes.size) (s.fn H (ds ++ gs)).results [])
    (hargs : ∀ sp : Nat → Bool, (∀ p ∈ before, sp p.block = true) → DataW.TrodAll enc P W' 0 sp true f.params.toList args.toList (s.fn H (ds ++ gs)).args pa)
    (hvars : ∀ sp : Nat → Bool, (∀ p ∈ before, sp p.block = true) → DataW.TrodVars enc P W' sp s.vars (s.fn H (ds ++ gs)).vars pv)
    (hps : before = pa ++ pv) (hb : Below W.heap.size W W')
    (hok : ∀ (j : Nat) (t : TypeId) (r : Value), f.resultTypes[j]? = some t → (v.resultList f.resultTypes.size)[j]? = some r → Value.okWide P W' .any 0 t r) :
    s.post enc P f apart fresh handsOn again W args v W' := by
  have hold : ∀ p ∈ before, (fun b => decide (b < W.heap.size)) p.block = true := fun p hp => by simpa using hW.lt p hp
  refine ⟨ds, gs, before, [], pa, pv, hW, hres _ _ _, hargs _ hold, hvars _ hold, World.keptBut_mono (fun p hp => ⟨hp, ?_⟩) (hb.frame (· ∈ before)), fun _ => ?_⟩
  · rw [hps, List.mem_append] at hp
    exact Or.inr hp
  · have hlt := hW.lt
    obtain ⟨_, _, _, _, _, hz, hn⟩ := hW
    refine ⟨hok, _, _, ([] ++ pa) ++ pv, ⟨[] ++ pa, pv, trodAll_append (hargs _ (fun _ _ => rfl)) (hres _ _ _), hvars _ (fun _ _ => rfl), rfl, ?_, ?_⟩, ?_⟩
    · intro b off hp
      have hm : MemPlace.cell b off ∈ before := by rw [hps]; simpa using hp
      rw [hb.frozen (hlt _ hm)]
      exact hz b off hm
    · intro ha
      have := hn ha
      rw [hps] at this
      simpa using this
    · intro p hp _
      rw [hps]
      simpa using hp

/-- An argument, by its type. -/
def ArgOk (P : Program) (F : Nat) (t : TypeId) (a : AV) (b : Nat) : Prop :=
  match P.underlying t with
  | some (.struct _) | some (.array _ _) => ∃ cz, a = .agg cz ∧ TyOk P F t cz b
  | _ => TyOk P F t [a] b

def ArgsOk (P : Program) (F : Nat) : List TypeId → List AV → Nat → Prop
  | [], [], _ => True
  | t :: ts, a :: cz, b => ∃ b1 b2, ArgOk P F t a b1 ∧ ArgsOk P F ts cz b2 ∧ b1 + b2 ≤ b
  | _, _, _ => False

/-- All memory of a world, to be read. -/
def allFro (W : World) : Sig where
  loc _ := none
  fro b := match W.heap[b]? with | some (.cells c _ _) => some c | _ => none
  mrk _ := False

theorem tyOk_one {P : Program} {F : Nat} {t : TypeId} {cz : List AV} {b : Nat} (h : TyOk P F t cz b) (hn : ∀ fs, P.underlying t ≠ some (.struct fs)) (hn' : ∀ n e, P.underlying t ≠ some (.array n e)) : ∃ a, cz = [a] := by
  cases F with
  | zero => exact h.elim
  | succ F =>
    unfold TyOk at h
    split at h
    · obtain ⟨x, rfl⟩ := h; exact ⟨_, rfl⟩
    · obtain ⟨x, rfl, _⟩ := h; exact ⟨_, rfl⟩
    · obtain ⟨x, rfl, _⟩ := h; exact ⟨_, rfl⟩
    · obtain ⟨x, rfl, _⟩ := h; exact ⟨_, rfl⟩
    · rename_i q; exact absurd q (hn _)
    · rename_i q; exact absurd q (hn' _ _)
    · exact h.elim

theorem arg_ok (hl : laidOutB P = true) {W : World} {base F : Nat} {t : TypeId} {v : Value} {d : DataW H} {ps : List MemPlace} (hf : tyFine P F t = true) (hrow : t < P.types.size) (hval : Value.okWide P W .any base t v)
    (h : DataW.Trod enc P W 0 (fun _ => true) true t v d ps) (hfits : Fits P t d) : ∃ a, ArgOk P F t a (Rows.uptoBulk d) ∧ VR (allFro W) a v := by
  obtain ⟨fuel, h⟩ := h
  obtain ⟨cz, hty, hr⟩ := trod_ty (σ := allFro W) hl (by intro b c e fr q; simp [allFro, q]) F t fuel _ _ hf hrow h hfits
  by_cases hs : (∃ fs, P.underlying t = some (.struct fs)) ∨ ∃ n e, P.underlying t = some (.array n e)
  · have hv : ∃ cs, v = .agg cs := by
      unfold Value.okWide at hval
      rcases hs with ⟨fs, hu⟩ | ⟨n, e, hu⟩ <;> rw [hu] at hval <;> obtain ⟨cs, rfl, _⟩ := hval <;> exact ⟨cs, rfl⟩
    obtain ⟨cs, rfl⟩ := hv
    refine ⟨.agg cz, ?_, .agg cz cs (by simpa [Value.cells] using hr.len) (by intro j x y a b; exact hr.at_ j x y a (by simpa [Value.cells] using b))⟩
    unfold ArgOk
    rcases hs with ⟨fs, hu⟩ | ⟨n, e, hu⟩ <;> simp only [hu] <;> exact ⟨cz, rfl, hty⟩
  · have hn : ∀ fs, P.underlying t ≠ some (.struct fs) := fun fs q => hs (.inl ⟨fs, q⟩)
    have hn' : ∀ n e, P.underlying t ≠ some (.array n e) := fun n e q => hs (.inr ⟨n, e, q⟩)
    obtain ⟨a, rfl⟩ := tyOk_one hty hn hn'
    have hv : v.cells = #[v] := by
      have hc : Cell.okWide P W .any base t v := by
        unfold Value.okWide at hval
        split at hval
        · rename_i q; exact absurd q (hn _)
        · rename_i q; exact absurd q (hn' _ _)
        · exact hval
      cases v with
      | agg cs =>
        exfalso
        unfold Cell.okWide at hc
        split at hc <;> first | (rename_i q; cases q; done) | skip
        unfold Cell.ok at hc
        split at hc <;> first | exact hc | simp_all
      | _ => rfl
    refine ⟨a, ?_, ?_⟩
    · unfold ArgOk
      split
      · rename_i q; exact absurd q (hn _)
      · rename_i q; exact absurd q (hn' _ _)
      · exact hty
    · rw [hv] at hr
      exact hr.at_ 0 a v rfl rfl

theorem args_ok (hl : laidOutB P = true) {W : World} {base F : Nat} : ∀ {ts : List TypeId} {vs : List Value} {ds : List (DataW H)} {ps : List MemPlace}, (∀ t ∈ ts, tyFine P F t = true ∧ t < P.types.size) →
    (∀ (j : Nat) t v, ts[j]? = some t → vs[j]? = some v → Value.okWide P W .any base t v) → DataW.TrodAll enc P W 0 (fun _ => true) true ts vs ds ps → (∀ (j : Nat) t d, ts[j]? = some t → ds[j]? = some d → Fits P t d) → ds.length = ts.length ∧ ∃ cz, ArgsOk P F ts cz (Rows.uptoBulkAll ds) ∧ VRs (allFro W) cz vs
  | [], vs, ds, ps, _, _, h, _ => by
    obtain ⟨rfl, rfl, rfl⟩ := trodAll_nil h
    exact ⟨rfl, [], trivial, .nil _⟩
  | t :: ts, vs, ds, ps, hf, hval, h, hfits => by
    obtain ⟨v, vs, d, ds, p, q, rfl, rfl, rfl, h1, h2⟩ := trodAll_cons h
    obtain ⟨a, ha, hr⟩ := arg_ok hl (hf t List.mem_cons_self).1 (hf t List.mem_cons_self).2 (hval 0 t v rfl rfl) h1 (hfits 0 t d rfl rfl)
    obtain ⟨hlen, cz, hc, hrs⟩ := args_ok hl (fun t q => hf t (List.mem_cons_of_mem _ q)) (fun j t v a b => hval (j + 1) t v (by simpa using a) (by simpa using b)) h2 (fun j t d a b => hfits (j + 1) t d (by simpa using a) (by simpa using b))
    exact ⟨by simp [hlen], a :: cz, ⟨_, _, ha, hc, by simp [Rows.uptoBulkAll]⟩, .cons hr hrs⟩

theorem trodAll_stays (hl : laidOutB P = true) {W W' : World} {sp : Nat → Bool} : ∀ {ts : List TypeId} {vs : List Value} {ds : List (DataW H)} {ps : List MemPlace}, (∀ t ∈ ts, P.readableRec t = true ∧ t < P.types.size) →
    DataW.TrodAll enc P W 0 (fun _ => true) true ts vs ds ps → (∀ p ∈ ps, W.sameAt W' p) → (∀ p ∈ ps, sp p.block = true) → DataW.TrodAll enc P W' 0 sp true ts vs ds ps
  | [], vs, ds, ps, _, h, _, _ => by
    obtain ⟨rfl, rfl, rfl⟩ := trodAll_nil h
    exact rfl
  | t :: ts, vs, ds, ps, hf, h, hs, hsp => by
    obtain ⟨v, vs, d, ds, p, q, rfl, rfl, rfl, h1, h2⟩ := trodAll_cons h
    have ht := hf t List.mem_cons_self
    exact ⟨p, q, WideElems.Trod_stays hl ht.1 ht.2 h1 (fun x hx => hs x (List.mem_append_left _ hx)) (fun x hx => hsp x (List.mem_append_left _ hx)),
      trodAll_stays hl (fun t q => hf t (List.mem_cons_of_mem _ q)) h2 (fun x hx => hs x (List.mem_append_right _ hx)) (fun x hx => hsp x (List.mem_append_right _ hx)), rfl⟩

theorem Shp.same {W : World} (hS : Shp W) {w' : World} (hw : ∀ k, k < W.heap.size → w'.heap[k]? = W.heap[k]?) : Shp w' := by
  have cl : ∀ (a : Addr) (v : Value), W.cell? a = some v → w'.cell? a = some v := by
    intro a v h
    have hb : a.block < W.heap.size := by
      rcases Nat.lt_or_ge a.block W.heap.size with q | q
      · exact q
      · unfold World.cell? at h; rw [Array.getElem?_eq_none q] at h; simp at h
    unfold World.cell? at h ⊢
    rw [hw _ hb]; exact h
  obtain ⟨⟨m1, h1⟩, _⟩ := hS; exact ⟨⟨m1, cl _ _ h1⟩, trivial⟩

/-- A law that is walked: its call answers true, and what was there stays. -/
theorem law_calls {fid : FuncId} {f : Func} {s : ChangeSpec} {tb : TypeId} (hl : laidOutB P = true) (hv : s.vars = []) (hr : f.resultTypes = #[tb]) (hb : P.underlying tb = some .bool)
    (hp : (f.params.toList.all fun t => tyFine P 20 t && decide (t < P.types.size) && P.readableRec t) = true) (hfn : ∀ ds : List (DataW H), ds.length = f.params.toList.length → s.fn H ds = { results := [.lit (.bool true)], args := ds })
    {W : World} {base : Nat} {args : Array Value} {ds gs : List (DataW H)} {before : List MemPlace} (hval : ∀ (j : Nat) t v, f.params[j]? = some t → args[j]? = some v → Value.okWide P W .any base t v)
    (hW : DataW.Whole enc P f.params.toList s.vars false W args.toList ds gs before)
    (hfits : (DataW.weightsEach P (f.params.toList ++ s.plain.varTypes P) (ds ++ gs)).all (· ≤ reachBytes) = true ∨ Rows.uptoBulkAll (ds ++ gs) ≤ 1048576)
    (walk : ∀ cz, ArgsOk P 20 f.params.toList cz (Rows.uptoBulkAll (ds ++ gs)) → Pure P fid cz (.bool true)) (hS : Shp W) :
    Calls P fid args W fun e W' => ∃ v, e = .returned v ∧ s.post enc P f false true false false W args v W' := by
  have hp' : ∀ t ∈ f.params.toList, (tyFine P 20 t = true ∧ t < P.types.size) ∧ P.readableRec t = true := by
    intro t ht
    have := List.all_eq_true.1 hp t ht
    simp only [Bool.and_eq_true, decide_eq_true_eq] at this
    exact this
  obtain ⟨p, q, hA, hV, hpq, hfz, hnd⟩ := id hW
  rw [hv] at hV
  obtain ⟨rfl, rfl⟩ := trodVars_none hV
  obtain ⟨hdl, cz, hc, hrs⟩ := args_ok hl (fun t ht => (hp' t ht).1) (fun j t v a b => hval j t v (by rw [← Array.getElem?_toList]; exact a) (by rw [← Array.getElem?_toList]; exact b)) hA (fun j t d a b => by
    rcases hfits with h | h
    · refine .inl fun n hn => ?_
      have hj := (List.getElem?_eq_some_iff.1 a).1
      have := List.all_eq_true.1 h n (DataW.weights_mem_each (j := j) (by rw [List.getElem?_append_left hj]; exact a) (by rw [List.append_nil]; exact b) n hn)
      simpa using this
    · have := bulk_mem (List.mem_of_getElem? b)
      rw [List.append_nil] at h
      exact .inr (by omega))
  have hw := walk cz (by simpa using hc)
  let G : Guard := { w := W, p := fun b => b < W.heap.size, x := fun _ => False, xp := fun b q => q.elim, sh := fun w' hw => hS.same hw }
  have s0 : Sim G (allFro W) [] W := by
    refine ⟨⟨rfl, rfl, rfl, Nat.le_refl _, fun k hk => ⟨hk, rfl⟩⟩, fun i hi => by simp at hi, fun i l hl => by simp [allFro] at hl, ?_, fun i cs o l hi => by simp at hi, fun i j cs ds o o' l m _ hi => by simp at hi, fun i cs o l hi => by simp at hi, fun _ _ _ q => q, ⟨fun i c ts st l hi => by simp at hi, fun i j c ts st c' ts' st' l m _ hi => by simp at hi, fun b hb => hb.elim⟩, fun i op l hi => by rcases hi with hi | hi <;> simp at hi⟩
    intro b c hb
    simp only [allFro] at hb
    split at hb
    · rename_i c' e fr hq; cases hb; exact ⟨e, fr, hq⟩
    · cases hb
  have hcall := hw.call.run G (allFro W) W args.toList s0 hrs
  rw [Array.toArray_toList] at hcall
  refine hcall.mono ?_
  rintro e W' ⟨r, h', σ', h1, ⟨rfl, rfl⟩, s1, _⟩
  have hbel : Below W.heap.size W W' := ⟨s1.below.os, s1.below.tape, s1.below.output, s1.below.size, fun k hk => (s1.below.block k hk).2⟩
  cases h1 with
  | ret _ u hu =>
    cases hu
    refine ⟨.bool true, rfl, ?_⟩
    have hb' : before = p := by rw [hpq, List.append_nil]
    have hfn' : s.fn H (ds ++ []) = { results := [.lit (.bool true)], args := ds } := by rw [List.append_nil]; exact hfn ds hdl
    refine post_below (pa := p) (pv := []) hW ?_ ?_ ?_ (by rw [hb', List.append_nil]) hbel (ok_one hr rfl (okWide_bool_mk hb _))
    · intro b sp hd
      rw [hfn', hr]
      exact trodAll_cons_mk (shut_bool hb _) rfl
    · intro sp hsp
      rw [hfn']
      exact trodAll_stays hl (fun t ht => ⟨(hp' t ht).2, (hp' t ht).1.2⟩) hA (fun x hx => hbel.same (hW.lt x (by rw [hb']; exact hx))) (fun x hx => hsp x (by rw [hb']; exact hx))
    · intro sp hsp
      rw [hfn', hv]; exact rfl
end

/-- A row that lists variables: its pre, and the world's shape. -/
theorem handed_and_shaped {H : Type} {enc : TypeId × Value → H} {a : Assume} {C : Checked} {os : Os} {f : FuncId} {fn : Func} {s : ChangeSpec} {conds : List PathCond} {apart fresh handsOn again : Bool} {X : World → Array Value → Prop}
    (hX : ∀ (w w' : World) (args : Array Value), w.heap = w'.heap → X w args → X w' args)
    (own : ownKnob C.prog.godebug = none) (started : os.Started) (noInit : C.prog.inits.idxOf? f = none) (hfn : C.prog.funcs[f]? = some fn)
    (witness : ∃ (w : World) (tape : Tape) (i : Input), w.os = os ∧ (w.forCall tape i).Shaped C.prog ∧ i.vars = [] ∧ Input.okWide C.prog (w.forCall tape i) .any w.heap.size f i ∧
      ((s.pre enc C.prog fn conds apart (w.forCall tape i).memory i.args ∧ X (w.forCall tape i).memory i.args) ∧ sizedMet enc C.prog fn (OpenSpec.ofChange s) apart (w.forCall tape i).memory i.args) ∧ a.holds C.prog (lone (Frame.enter C.prog f i.args .normal) [] (w.forCall tape i)))
    (contract : ∀ (W : World) (base : Nat) (args : Array Value) (ds gs : List (DataW H)) (before : List MemPlace),
      (∀ (j : Nat) t v, fn.params[j]? = some t → args[j]? = some v → Value.okWide C.prog W .any base t v) →
      DataW.Whole enc C.prog fn.params.toList s.vars apart W args.toList ds gs before →
      conds.all (PathCond.test C.prog ⟨fn.params.toList, ds, s.plain.varTypes C.prog, gs⟩) = true →
      (DataW.weightsEach C.prog (fn.params.toList ++ s.plain.varTypes C.prog) (ds ++ gs)).all (· ≤ reachBytes) = true → X W args → W.ShapedOpen C.prog →
      a.holds C.prog (lone (Frame.enter C.prog f args .normal) [] W) →
      Calls C.prog f args W fun e W' => ∃ v, e = .returned v ∧ s.post enc C.prog fn apart fresh handsOn again W args v W') :
    ReturnsInHanded a C os f .any (fun w args => (s.pre enc C.prog fn conds apart w args ∧ X w args) ∧ sizedMet enc C.prog fn (OpenSpec.ofChange s) apart w args) (s.post enc C.prog fn apart fresh handsOn again) := by
  refine returnsInHanded_of_calls own started noInit witness ?_
  intro w tape i _ hsh _ hok hpre hholds
  obtain ⟨_, _, _, fn', hfn', _, _, _, _, hval⟩ := hok
  have e : fn' = fn := Option.some.inj (hfn'.symm.trans hfn)
  subst e
  obtain ⟨⟨⟨ds, gs, before, hw, hc⟩, hx⟩, hz⟩ := hpre
  have hw' := DataW.Whole.of_heap (w' := w.forCall tape i) (by rfl) hw
  refine (contract (w.forCall tape i) w.heap.size i.args ds gs before hval hw' hc (hz.weights hw) (hX _ _ _ (by rfl) hx) hsh hholds).mono fun e W' ⟨v, he, hp⟩ => ?_
  subst he
  exact ChangeSpec.post_blind hp


/-! ### types, opened -/
section
variable {P : Program} {t : TypeId} {n : Nat} {cz : List AV} {b : Nat}
theorem ty_bool (hu : P.underlying t = some .bool) (h : TyOk P (n + 1) t cz b) : ∃ x, cz = [.bool x] := by unfold TyOk at h; rw [hu] at h; exact h
theorem ty_int {k : IntKind} (hu : P.underlying t = some (.int k)) (h : TyOk P (n + 1) t cz b) : ∃ x, cz = [.int k x] ∧ (Lit.int k x).wf = true := by unfold TyOk at h; rw [hu] at h; exact h
theorem ty_i64 (hu : P.underlying t = some (.int .i64)) (h : TyOk P (n + 1) t cz b) : ∃ x, cz = [.int .i64 x] ∧ I64 x := by
  obtain ⟨x, h1, h2⟩ := ty_int hu h
  refine ⟨x, h1, ?_⟩
  simp [Lit.wf, IntKind.min, IntKind.max, IntKind.signed, IntKind.bits] at h2
  exact h2
theorem ty_u8 (hu : P.underlying t = some (.int .u8)) (h : TyOk P (n + 1) t cz b) : ∃ x, cz = [.int .u8 x] ∧ (0 ≤ x ∧ x ≤ 255) := by
  obtain ⟨x, h1, h2⟩ := ty_int hu h
  refine ⟨x, h1, ?_⟩
  simp [Lit.wf, IntKind.min, IntKind.max, IntKind.signed, IntKind.bits] at h2
  exact h2
theorem ty_u64 (hu : P.underlying t = some (.int .u64)) (h : TyOk P (n + 1) t cz b) : ∃ x, cz = [.int .u64 x] ∧ (0 ≤ x ∧ x ≤ 18446744073709551615) := by
  obtain ⟨x, h1, h2⟩ := ty_int hu h
  refine ⟨x, h1, ?_⟩
  simp [Lit.wf, IntKind.min, IntKind.max, IntKind.signed, IntKind.bits] at h2
  exact h2
theorem ty_str (hu : P.underlying t = some .string) (h : TyOk P (n + 1) t cz b) : ∃ s : ByteArray, cz = [.str s] ∧ s.size < b ∧ s.size ≤ reachBytes := by
  unfold TyOk at h; rw [hu] at h
  obtain ⟨s, h1, h3, h2⟩ := h
  exact ⟨s, h1, h2, h3⟩
theorem ty_struct {fs : Array Field} (hu : P.underlying t = some (.struct fs)) (h : TyOk P (n + 1) t cz b) : TyOkL (TyOk P n) (fs.toList.map (·.type)) cz b := by unfold TyOk at h; rw [hu] at h; exact h
theorem ty_array {m : Nat} {e : TypeId} (hu : P.underlying t = some (.array m e)) (h : TyOk P (n + 1) t cz b) : TyOkL (TyOk P n) (List.replicate m e) cz b := by unfold TyOk at h; rw [hu] at h; exact h
/-- A slice whose elements are opened by a relation to Lean's values. -/
theorem ty_slice {α : Type} {e : TypeId} (hu : P.underlying t = some (.slice e)) (h : TyOk P (n + 1) t cz b) (enc : α → List AV) (ok : α → Nat → Prop) (open_ : ∀ (cs : List AV) (b : Nat), TyOk P n e cs b → ∃ x, cs = enc x ∧ ok x b) :
    ∃ l : List α, cz = [.islice false l.length (l.flatMap enc)] ∧ l.length < b ∧ (l.length * P.bytesOf e ≤ reachBytes ∨ l.length < 1048576) ∧ ∃ bs : List Nat, bs.length = l.length ∧ bs.sum < b ∧ ∀ (i : Nat) x c, l[i]? = some x → bs[i]? = some c → ok x c := by
  unfold TyOk at h; rw [hu] at h
  obtain ⟨els, rfl, hels, hsum, hlen, hroom⟩ := h
  have key : ∃ l : List α, l.length = els.length ∧ (els.map (·.1)).flatten = l.flatMap enc ∧ ∀ (i : Nat) x y, l[i]? = some x → els[i]? = some y → ok x y.2 := by
    clear hsum hlen hroom
    induction els with
    | nil => exact ⟨[], rfl, rfl, by intro i x y q; simp at q⟩
    | cons y els ih =>
      obtain ⟨l, h1, h2, h3⟩ := ih fun z hz => hels z (List.mem_cons_of_mem _ hz)
      obtain ⟨x, hx, ho⟩ := open_ y.1 y.2 (hels y List.mem_cons_self)
      refine ⟨x :: l, by simp [h1], by simp [h2, hx], ?_⟩
      intro i a c ha hc
      cases i with
      | zero => simp at ha hc; subst ha; subst hc; exact ho
      | succ i => simp at ha hc; exact h3 i a c ha hc
  obtain ⟨l, h1, h2, h3⟩ := key
  refine ⟨l, by rw [h2, h1], by omega, by rw [h1]; exact hroom, els.map (·.2), by simp [h1], hsum, ?_⟩
  intro i x c hx hc
  rw [List.getElem?_map, Option.map_eq_some_iff] at hc
  obtain ⟨y, hy, rfl⟩ := hc
  exact h3 i x y hx hy
end

end Go.Proofs.YtginchgkbgcimaaDoor.AL
