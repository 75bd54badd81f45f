/- The operations over the abstract states: append, copy. -/
import Derived.Test.YtginchgkbgcimaaDoorAmem3
namespace Go.Proofs.YtginchgkbgcimaaDoor.AL
open Go Go.RowKit

/-- What a list of elements holds: how many, their cells. -/
def srcOf (h : Heap) (size : Nat) : AV → Option (Nat × List AV)
  | .islice _ n cs => if n * size ≤ cs.length then some (n, cs.take (n * size)) else none
  | .slice i k len _ => match rdObj h[i]? with | some (cs, _) => if k + len * size ≤ cs.length then some (len, (cs.drop k).take (len * size)) else none | _ => none
  | .lit (.slice none 0 0) => some (0, [])
  | .str s => if size = 1 then some (s.size, s.data.toList.map fun b => .int .u8 b.toNat) else none
  | _ => none

theorem bytes_len (s : ByteArray) : s.data.toList.length = s.size := by cases s; rfl

theorem srcOf_len {h : Heap} {size : Nat} {y : AV} {n : Nat} {cs : List AV} (e : srcOf h size y = some (n, cs)) : cs.length = n * size := by
  unfold srcOf at e
  split at e
  · split at e
    · simp at e; obtain ⟨rfl, rfl⟩ := e; simp; omega
    · simp at e
  · split at e
    · split at e
      · simp at e; obtain ⟨rfl, rfl⟩ := e; simp; omega
      · simp at e
    · simp at e
  · simp at e; obtain ⟨rfl, rfl⟩ := e; simp
  · split at e
    · rename_i hs; subst hs; simp only [Option.some.injEq, Prod.mk.injEq] at e; obtain ⟨rfl, rfl⟩ := e; rw [List.length_map, bytes_len, Nat.mul_one]
    · simp at e
  · simp at e

theorem run_firstCells_some' {P : Program} {w : World} (size n : Nat) (a : Addr) (len cap : Nat) : (Builtin.firstCells size n (.slice (some a) len cap)).run P w = (loadCells a (n * size)).run P w := rfl

/-- The source's cells, some of the first elements of them. -/
theorem srcOf_sound {P : Program} {w0 : Guard} {w : World} {σ : Sig} {h : Heap} (s : Sim w0 σ h w) {size : Nat} {y : AV} {vy : Value} {n : Nat} {cs : List AV} (e : srcOf h size y = some (n, cs)) (hy : VR σ y vy) :
    (Builtin.lenOf vy).run P w = .ok n w ∧ ∀ m, m ≤ n → ∃ ds : Array Value, (Builtin.firstCells size m vy).run P w = .ok ds w ∧ VRs σ (cs.take (m * size)) ds.toList := by
  have hlen := srcOf_len e
  unfold srcOf at e
  split at e
  · rename_i ex n' cs'
    split at e
    · rename_i hle
      simp at e; obtain ⟨rfl, rfl⟩ := e
      cases hy with
      | islice _ _ _ b o cap c h1 h2 h3 h4 h5 =>
        refine ⟨rfl, ?_⟩
        intro m hm
        have hms : m * size ≤ n' * size := Nat.mul_le_mul_right _ hm
        obtain ⟨ds, hr, hds⟩ := run_loadCells_VRs (P := P) (σ := σ) (w := w) (a := ⟨b, o, none⟩) (xs := (cs'.take (n' * size)).take (m * size)) (by
          intro j k0 hj
          rw [List.getElem?_take] at hj
          split at hj
          · rw [List.getElem?_take] at hj
            split at hj
            · rw [Addr.add_lit]; exact s.cellFro h3 h4 h5 hj
            · simp at hj
          · simp at hj)
        refine ⟨ds, ?_, hds⟩
        rw [run_firstCells_some']
        rw [List.length_take, hlen, Nat.min_eq_left hms] at hr
        exact hr
      | isliceE _ a cap _ _ =>
        refine ⟨rfl, ?_⟩
        intro m hm
        have : m = 0 := by omega
        subst this
        refine ⟨#[], ?_, by simpa using VRs.nil σ⟩
        cases a <;> simp [Builtin.firstCells, loadCells, loadCellsFrom]
    · simp at e
  · rename_i i k len cap
    split at e
    · rename_i cs' o hi
      split at e
      · rename_i hle
        simp at e; obtain ⟨rfl, rfl⟩ := e
        cases hy with
        | sliceE _ a l hl =>
          refine ⟨rfl, ?_⟩
          intro m hm
          have : m = 0 := by omega
          subst this
          refine ⟨#[], ?_, by simpa using VRs.nil σ⟩
          cases a <;> simp [Builtin.firstCells, loadCells, loadCellsFrom]
        | slice _ _ _ _ cap' l hl h1 h2 =>
          refine ⟨rfl, ?_⟩
          intro m hm
          have hms : m * size ≤ len * size := Nat.mul_le_mul_right _ hm
          obtain ⟨ds, hr, hds⟩ := run_loadCells_VRs (P := P) (σ := σ) (w := w) (a := ⟨l.b, l.o + k, none⟩) (xs := ((cs'.drop k).take (len * size)).take (m * size)) (by
            intro j k0 hj
            rw [List.getElem?_take] at hj
            split at hj
            · rw [List.getElem?_take] at hj
              split at hj
              · rw [List.getElem?_drop] at hj
                rw [Addr.add_lit, Nat.add_assoc]; exact s.cell (rdObj_some.1 hi) hj hl
              · simp at hj
            · simp at hj)
          refine ⟨ds, ?_, hds⟩
          rw [run_firstCells_some']
          rw [List.length_take, hlen, Nat.min_eq_left hms] at hr
          exact hr
      · simp at e
    · simp at e
  · simp at e; obtain ⟨rfl, rfl⟩ := e
    cases hy with
    | lit _ hp =>
      refine ⟨rfl, ?_⟩
      intro m hm
      have : m = 0 := by omega
      subst this
      exact ⟨#[], by simp [Builtin.firstCells], by simpa using VRs.nil σ⟩
  · rename_i b
    split at e
    · rename_i hs
      subst hs
      simp only [Option.some.injEq, Prod.mk.injEq] at e; obtain ⟨rfl, rfl⟩ := e
      cases hy with
      | str _ =>
        refine ⟨rfl, ?_⟩
        intro m hm
        refine ⟨_, rfl, ?_⟩
        have hsz := bytes_len b
        refine ⟨?_, ?_⟩
        · have hsx := bytes_len (b.extract 0 m)
          rw [ByteArray.size_extract] at hsx
          rw [Array.toList_map, List.length_map, hsx, List.length_take, List.length_map, hsz]
          omega
        · intro j x y hx hy
          simp only [Nat.mul_one, List.getElem?_take, List.getElem?_map, Option.map_eq_some_iff, Array.toList_map] at hx hy
          split at hx
          · simp only [Option.map_eq_some_iff] at hx
            obtain ⟨u, hu, rfl⟩ := hx
            obtain ⟨u', hu', rfl⟩ := hy
            have : u = u' := by
              have e1 : (b.extract 0 m).data.toList[j]? = b.data.toList[j]? := by
                rename_i hj
                rw [ByteArray.data_extract, Array.toList_extract, List.extract_eq_take_drop]
                simp only [List.drop_zero, Nat.sub_zero]
                rw [List.getElem?_take, if_pos hj]
              rw [e1] at hu'
              rw [hu] at hu'; exact Option.some.inj hu'
            subst this
            exact .int _ _
          · simp at hx
    · simp at e
  · simp at e

/-- The same, handed on. -/
def vcSrc (h : Heap) (size : Nat) (y : AV) (K : Nat → List AV → Prop) : Prop :=
  match y with
  | .islice _ n cs => cs.length = n * size ∧ K n cs
  | .slice i k len _ => withRead h[i]? fun cs _ => k + len * size ≤ cs.length ∧ wcut cs k (len * size) fun ys => K len ys
  | .lit (.slice none 0 0) => K 0 []
  | .str s => req (size == 1) (K s.size (s.data.toList.map fun b => .int .u8 b.toNat))
  | _ => False

theorem vcSrc_elim {h : Heap} {size : Nat} {y : AV} {K : Nat → List AV → Prop} (v : vcSrc h size y K) : ∃ n cs, srcOf h size y = some (n, cs) ∧ K n cs := by
  unfold vcSrc at v
  split at v
  · obtain ⟨q, v⟩ := v
    refine ⟨_, _, ?_, v⟩
    simp only [srcOf]
    rw [if_pos (by omega), List.take_of_length_le (by omega)]
  · obtain ⟨cs, op, hi, q, v⟩ := withRead_elim v
    refine ⟨_, _, ?_, v.out⟩
    simp only [srcOf, rdObj_some.2 hi]
    rw [if_pos q]
  · exact ⟨0, [], rfl, v⟩
  · obtain ⟨q, v⟩ := req_elim v
    simp only [beq_iff_eq] at q
    refine ⟨_, _, ?_, v⟩
    simp only [srcOf, if_pos q]
  · exact v.elim

/-- append(x, y...), the elements of so many cells and bytes: behind the source's elements. -/
def vcAppO (h : Heap) (x : AV) (n : Nat) (new : List AV) (size bytes code : Nat) (K : Cont) : Prop :=
    (n = 0 → (match x with | .slice .. | .islice .. | .lit (.slice none 0 0) => True | _ => False) ∧ K x h) ∧
    (0 < n → match x with
      | .lit (.slice none 0 0) => (n * bytes ≤ 2 ^ 47 ∧ n < 2 ^ 62) ∧ K (.slice h.length 0 n n) (h ++ [.cells new (some code)])
      | .islice true m old => m * size = old.length ∧ ((m + n) * bytes ≤ 2 ^ 47 ∧ m + n < 2 ^ 62) ∧ K (.slice h.length 0 (m + n) (m + n)) (h ++ [.cells (old ++ new) (some code)])
      | .slice i k len cap => ∃ cs opn, h[i]? = some (.cells cs opn) ∧
          (k + len * size ≤ cs.length ∧ new.all AV.isCell = true) ∧
          (len + n ≤ cap → k + (len + n) * size ≤ cs.length ∧ K (.slice i k (len + n) cap) (h.set i (.cells (setMany cs (k + len * size) new) opn))) ∧
          (cap < len + n → ((len + n) * bytes ≤ 2 ^ 47 ∧ len + n < 2 ^ 62) ∧ (match opn with
            | none => K (.slice h.length 0 (len + n) (len + n)) (h ++ [.cells ((cs.drop k).take (len * size) ++ new) (some code)])
            | some sz => (sz = code ∧ (code < 1048576 ∨ k = 0)) ∧ K (.slice h.length 0 (len + n) (len + n)) (h.set i .dead ++ [.cells ((cs.drop k).take (len * size) ++ new) (some code)])))
      | _ => False)

/-- Cells out of a list's, and others behind them. -/
structure wcat (cs : List AV) (k m : Nat) (new : List AV) (K : List AV → Prop) : Prop where
  out : K ((cs.drop k).take m ++ new)
/-- Cells laid over a list's. -/
structure wput (cs : List AV) (p : Nat) (new : List AV) (K : List AV → Prop) : Prop where
  len : p + new.length ≤ cs.length
  out : K (setMany cs p new)
/-- Is there room for n elements more? -/
structure wroom (len n cap : Nat) (A B : Prop) : Prop where
  yes : len + n ≤ cap → A
  no : cap < len + n → B
theorem wroom_grow {len n cap : Nat} {A B : Prop} (h : cap < len + n) (b : B) : wroom len n cap A B := ⟨fun q => absurd q (by omega), fun _ => b⟩
theorem wroom_in {len n cap : Nat} {A B : Prop} (h : len + n ≤ cap) (a : A) : wroom len n cap A B := ⟨fun _ => a, fun q => absurd q (by omega)⟩

def vcAppN (h : Heap) (x : AV) (n : Nat) (new : List AV) (size bytes code : Nat) (K : Cont) : Prop :=
  bcase (n == 0) (match x with | .slice .. | .islice .. | .lit (.slice none 0 0) => K x h | _ => False)
    (match x with
      | .lit (.slice none 0 0) => ask (n * bytes ≤ 2 ^ 47 ∧ n < 2 ^ 62) (withNew h (.cells new (some code)) fun i h' => K (.slice i 0 n n) h')
      | .islice true m old => ask (m * size = old.length ∧ (m + n) * bytes ≤ 2 ^ 47 ∧ m + n < 2 ^ 62) (wcat old 0 old.length new fun ys => withNew h (.cells ys (some code)) fun i h' => K (.slice i 0 (m + n) (m + n)) h')
      | .slice i k len cap => withCells h[i]? fun cs opn => ask (k + len * size ≤ cs.length ∧ new.all AV.isCell = true) (wroom len n cap
          (wput cs (k + len * size) new fun cs' => withSet h i (.cells cs' opn) (K (.slice i k (len + n) cap)))
          (ask ((len + n) * bytes ≤ 2 ^ 47 ∧ len + n < 2 ^ 62) (wcat cs k (len * size) new fun ys => match opn with
            | none => withNew h (.cells ys (some code)) fun i h' => K (.slice i 0 (len + n) (len + n)) h'
            | some sz => req (sz == code && (Nat.blt code 1048576 || k == 0)) (withSet h i .dead fun h' => withNew h' (.cells ys (some code)) fun i h' => K (.slice i 0 (len + n) (len + n)) h'))))
      | _ => False)

theorem vcAppN_old {h : Heap} {x : AV} {n : Nat} {new : List AV} {size bytes code : Nat} {K : Cont} (hl : new.length = n * size) (v : vcAppN h x n new size bytes code K) : vcAppO h x n new size bytes code K := by
  unfold vcAppN at v
  by_cases hn : n = 0
  · subst hn
    simp only [beq_self_eq_true, bcase] at v
    refine ⟨fun _ => ?_, fun q => absurd q (by omega)⟩
    split at v <;> first | exact ⟨trivial, v⟩ | exact v.elim
  · have hb : (n == 0) = false := by simpa using hn
    rw [hb] at v
    simp only [bcase] at v
    refine ⟨fun q => absurd q hn, fun _ => ?_⟩
    split at v
    · exact ⟨v.fst, withNew_elim v.snd⟩
    · have q := withNew_elim v.snd.out
      rw [List.drop_zero, List.take_of_length_le (Nat.le_refl _)] at q
      exact ⟨v.fst.1, v.fst.2, q⟩
    · obtain ⟨cs, opn, hi, v⟩ := withCells_elim v
      refine ⟨cs, opn, hi, v.fst, ?_, ?_⟩
      · intro q
        have a := v.snd.yes q
        refine ⟨?_, withSet_elim a.out⟩
        have := a.len
        rw [hl] at this
        rw [Nat.add_mul]; omega
      · intro q
        have a := v.snd.no q
        refine ⟨a.fst, ?_⟩
        have b := a.snd.out
        cases opn with
        | none => exact withNew_elim b
        | some sz =>
          have c := req_elim b
          have d := withNew_elim (withSet_elim c.2)
          rw [List.length_set] at d
          exact ⟨by simpa using c.1, d⟩
    · exact v.elim

def vcApp (h : Heap) (x y : AV) (size bytes code : Nat) (K : Cont) : Prop := vcSrc h size y fun n new => vcAppN h x n new size bytes code K

def chkApp (P : Program) (ts : Array TypeId) (size bytes code : Nat) : Bool :=
  match ts[0]?, ts[1]? with
  | some t, some u => chkElem P t size && (match P.underlying u with | some (.slice _) | some .string => true | _ => false) && P.bytesOf (elemOfT P t) == bytes &&
      (match (P.info? (elemOfT P t)).bind (·.zero) with | some z => z.cells.size == size | none => false) && (size != 0 && code % 1048576 == size && (decide (code < 1048576) || elemOfT P t + 1 == code / 1048576))
  | _, _ => false

theorem zeroCells_size (z : Array Value) (n : Nat) : (Builtin.zeroCells z n).size = n * z.size := by simp [Builtin.zeroCells]

/-- The parts of an append's run that every way shares. -/
structure AppRun (P : Program) (ts : Array TypeId) (size bytes code : Nat) where
  t : TypeId
  u : TypeId
  e : TypeId
  d : TypeDesc
  z : Value
  i : TypeInfo
  h0 : ts[0]? = some t
  h1 : ts[1]? = some u
  ht : P.underlying t = some (.slice e)
  hu : P.underlying u = some d
  hd : (∃ q, d = .slice q) ∨ d = .string
  hi : P.info? e = some i
  hz : i.zero = some z
  hzs : z.cells.size = size
  hs : i.size = size
  hb : i.bytes = bytes
  hp : 0 < size
  hc : osz code = size
  hty : 1048576 ≤ code → e + 1 = code / 1048576

theorem chkApp_spec {P : Program} {ts : Array TypeId} {size bytes code : Nat} (h : chkApp P ts size bytes code = true) : Nonempty (AppRun P ts size bytes code) := by
  unfold chkApp at h
  split at h
  · rename_i t u h0 h1
    simp only [Bool.and_eq_true, beq_iff_eq] at h
    obtain ⟨⟨⟨⟨he, hd⟩, hb⟩, hz⟩, ⟨hpo, hco⟩, hct⟩ := h
    obtain ⟨hu, hsz⟩ := chkElem_spec he
    simp only [chkSize, Bool.and_eq_true, beq_iff_eq] at hsz
    obtain ⟨i, hi⟩ := Option.isSome_iff_exists.1 hsz.1
    cases hdd : P.underlying u with
    | none => rw [hdd] at hd; simp at hd
    | some d =>
      cases hzz : i.zero with
      | none => simp [hi, hzz] at hz
      | some z =>
        simp only [hi, hzz, Option.bind_some, beq_iff_eq] at hz
        refine ⟨⟨t, u, elemOfT P t, d, z, i, h0, h1, hu, hdd, ?_, hi, hzz, hz, ?_, ?_, (by simp at hpo; omega), hco, fun hl => by simp only [Bool.or_eq_true, decide_eq_true_eq, beq_iff_eq] at hct; rcases hct with q | q <;> omega⟩⟩
        · rw [hdd] at hd
          cases d <;> first | exact .inl ⟨_, rfl⟩ | exact .inr rfl | simp at hd
        · have := hsz.2; simpa [tsize, Program.cellsOf, hi] using this
        · simpa [Program.bytesOf, hi] using hb
  · simp at h

theorem VRs.appendA {σ : Sig} {xs ys : List AV} {a b c : Array Value} (h : VRs σ xs a.toList) (k : VRs σ ys b.toList) : ∀ (j : Nat) x y, (xs ++ ys)[j]? = some x → (a ++ b ++ c)[j]? = some y → VR σ x y := by
  intro j x y hx hy
  have hl : j < xs.length + ys.length := by have := (List.getElem?_eq_some_iff.1 hx).1; rwa [List.length_append] at this
  have hab : xs.length + ys.length = a.size + b.size := by have h1 := h.len; have h2 := k.len; simp only [Array.length_toList] at h1 h2; omega
  have r := (VRs.append h k).at_ j x y hx
  apply r
  rw [← Array.getElem?_toList] at hy
  rw [Array.toList_append, List.getElem?_append_left (by rw [Array.length_toList, Array.size_append]; omega)] at hy
  rw [← Array.toList_append]; exact hy

/-- The way on which a new array is made. -/
theorem app_grow {P : Program} {w0 : Guard} {w : World} {σ : Sig} {h h' : Heap} (s : Sim w0 σ h w) {ts : Array TypeId} {ty : TypeId} {size bytes code : Nat} (R : AppRun P ts size bytes code) {vx vy : Value} {vy' : AV} {base : Option Addr} {m cap n : Nat} {old new : List AV}
    {olds : Array Value} {K : Cont} (hvx : vx = .slice base m cap) (hold : (Builtin.firstCells size m vx).run P w.drew = .ok olds w.drew) (hos : VRs σ old olds.toList) (holdl : old.length = m * size)
    (hsrc : srcOf h size vy' = some (n, new)) (hy : VR σ vy' vy) (hg : cap < m + n) (h47 : (m + n) * bytes ≤ 2 ^ 47) (h62 : m + n < 2 ^ 62)
    (hh : h'.length = h.length) (hhc : ∀ (i : Nat) cs o, h'[i]? = some (.cells cs o) → h[i]? = some (.cells cs o)) (hhf : ∀ (i : Nat) cs o, h'[i]? = some (.fro cs o) → h[i]? = some (.fro cs o)) (hhp : ∀ (i : Nat) c ts st, h'[i]? = some (.loop c ts st) → h[i]? = some (.loop c ts st))
    (k : K (.slice h.length 0 (m + n) (m + n)) (h' ++ [.cells (old ++ new) (some code)])) : Good w0 σ K ((Builtin.append_ ts ty #[vx, vy]).run P w) := by
  subst hvx
  have sd := s.drew
  obtain ⟨hlen, _⟩ := srcOf_sound (P := P) s hsrc hy
  obtain ⟨_, hfc⟩ := srcOf_sound (P := P) sd hsrc hy
  obtain ⟨news, hn1, hn2⟩ := hfc n (Nat.le_refl _)
  have hnl := srcOf_len hsrc
  rw [List.take_of_length_le (by omega)] at hn2
  have hn0 : ¬ (m + n ≤ cap) := by omega
  have h63' : ¬ (9223372036854775807 < ((m : Int) + (n : Int))) := by omega
  have h48' : ¬ (281474976710656 < Builtin.nextslicecap (m + n) cap * bytes) := by
    have := growslice_fits (need := m + n) (old := cap) (bytes := bytes) (by omega) (by simpa using h47)
    omega
  have hrun : (Builtin.append_ ts ty #[.slice base m cap, vy]).run P w = .ok (.slice (some ⟨w.heap.size, 0, none⟩) (m + n) (grownCap w (m + n) cap R.e))
      (w.drew.alloc (.cells (olds ++ news ++ Builtin.zeroCells R.z.cells (grownCap w (m + n) cap R.e - (m + n))) R.e)) := by
    obtain ⟨t, u, e, d, z, i, h0, h1, ht, hu, hd, hi, hz, hzs, hs, hb, _, _, _⟩ := R
    subst hs hb
    rcases hd with ⟨q, rfl⟩ | rfl
    all_goals
      simp [Builtin.append_, h0, h1, run_underlying ht, run_underlying hu, sizeOf, typeInfo, zeroValue, hi, hz, hlen, hn0, h63', h48', Question.forced, hold, hn1, newRow, grownCap]
  rw [hrun]
  have hcapge : m + n ≤ grownCap w (m + n) cap R.e := by unfold grownCap Question.cut; exact Nat.le_add_right _ _
  have s1 := sd.weaken hh hhc hhf hhp
  obtain ⟨s', le⟩ := s1.new (old ++ new) (some code) (olds ++ news ++ Builtin.zeroCells R.z.cells (grownCap w (m + n) cap R.e - (m + n))) R.e
    (by have := hos.len; have := hn2.len; simp at *; omega) (VRs.appendA hos hn2) (fun q hq hl => by cases hq; exact ⟨R.hty hl, rfl, fun h0 => by
      have hsz : size = 0 := by rw [← R.hc]; exact h0
      have := hos.len; have := hn2.len; simp only [Array.size_append, zeroCells_size, R.hzs, List.length_append, hsz, Nat.mul_zero] at *; simp only [Array.length_toList] at *; omega⟩)
  rw [hh] at s' le
  refine ⟨_, _, _, _, _, rfl, ?_, k, s', le⟩
  refine .slice h.length 0 (m + n) (m + n) (grownCap w (m + n) cap R.e) ⟨w.drew.heap.size, 0, (olds ++ news ++ Builtin.zeroCells R.z.cells (grownCap w (m + n) cap R.e - (m + n))).size, (old ++ new).length, some code⟩ (if_pos rfl) (Nat.le_refl _) (.inr ⟨code, rfl, ⟨by omega, hcapge, by rw [R.hc]; exact R.hp⟩, ?_, ?_⟩)
  · rw [R.hc]; simp [holdl, hnl, Nat.add_mul]
  · rw [R.hc]; have h1 := hos.len; have h2 := hn2.len
    simp only [Array.size_append, zeroCells_size, R.hzs]
    simp at h1 h2
    rw [← h1, ← h2, holdl, hnl, ← Nat.add_mul, ← Nat.add_mul]
    rw [Nat.zero_add]
    exact Nat.mul_le_mul_right _ (by omega)

/-- The way on which the elements go in place. -/
theorem app_inplace {P : Program} {w : World} {σ : Sig} {h : Heap} {w0 : Guard} (s : Sim w0 σ h w) {ts : Array TypeId} {ty : TypeId} {size bytes code : Nat} (R : AppRun P ts size bytes code) {vy : Value} {base : Option Addr} {m cap n : Nat} {new : List AV} {vy' : AV}
    (hsrc : srcOf h size vy' = some (n, new)) (hy : VR σ vy' vy) (hg : m + n ≤ cap) {w' : World}
    (hst : ∀ news : Array Value, VRs σ new news.toList → (match base with | some a => storeCells (a.add (m * size)) news.toList | none => pure () : Sem Unit).run P w = .ok () w') :
    (Builtin.append_ ts ty #[.slice base m cap, vy]).run P w = .ok (.slice base (m + n) cap) w' := by
  obtain ⟨hlen, hfc⟩ := srcOf_sound (P := P) s hsrc hy
  obtain ⟨news, hn1, hn2⟩ := hfc n (Nat.le_refl _)
  have hnl := srcOf_len hsrc
  rw [List.take_of_length_le (by omega)] at hn2
  have hst' := hst news hn2
  obtain ⟨t, u, e, d, z, i, h0, h1, ht, hu, hd, hi, hz, hzs, hs, hb, _, _, _⟩ := R
  subst hs hb
  cases base with
  | none =>
    simp only [Sem.run_pure] at hst'
    cases hst'
    rcases hd with ⟨q, rfl⟩ | rfl
    all_goals simp [Builtin.append_, h0, h1, run_underlying ht, run_underlying hu, sizeOf, typeInfo, hi, hlen, hg, hn1]
  | some a =>
    simp only at hst'
    rcases hd with ⟨q, rfl⟩ | rfl
    all_goals simp [Builtin.append_, h0, h1, run_underlying ht, run_underlying hu, sizeOf, typeInfo, hi, hlen, hg, hn1, hst']

end Go.Proofs.YtginchgkbgcimaaDoor.AL
