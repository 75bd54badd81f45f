/- Straight-line programs: the library's functions that a closed call meets. -/
import Derived.Test.YtginchgkbgcimaaDoorSlpI
import Derived.Test.YtginchgkbgcimaaDoorCslib
import Derived.Test.YtginchgkbgcimaaDoorShelf
import Derived.Test.YtginchgkbgcimaaDoorAlib
import Derived.Test.YtginchgkbgcimaaDoorAatom
namespace Go.Proofs.YtginchgkbgcimaaDoor.C
open Go Go.RowKit Go.Proofs.YtginchgkbgcimaaDoor.AL

theorem itoa.a0 : Pure prog 24 [.int .i64 0] (.str ⟨#[48]⟩) :=
  pure_lib (vals := [.int .i64 0]) rfl (fun σ => .str _) fun w _ => (Go.Proofs.Tryd.strconv_Itoa_small 0 (by decide) w).mono fun e w' ⟨h, k⟩ => ⟨by rw [h, show Go.Lib.decDigits 0 = [48] by rw [Go.Lib.decDigits]; rfl], by rw [k]; exact Below.refl _ _⟩
theorem itoa.a1 : Pure prog 24 [.int .i64 1] (.str ⟨#[49]⟩) :=
  pure_lib (vals := [.int .i64 1]) rfl (fun σ => .str _) fun w _ => (Go.Proofs.Tryd.strconv_Itoa_small 1 (by decide) w).mono fun e w' ⟨h, k⟩ => ⟨by rw [h, show Go.Lib.decDigits 1 = [49] by rw [Go.Lib.decDigits]; rfl], by rw [k]; exact Below.refl _ _⟩

theorem join.g (ex : Bool) (xs : List ByteArray) (sep : ByteArray) (hN : xs.length ≤ 140737488355328) (hlen : (Go.Lib.join (xs.map (·.data.toList)) sep.data.toList).length ≤ 140737488355328) :
    Pure prog 23 [.islice ex xs.length (xs.map .str), .str sep] (.str ⟨(Go.Lib.join (xs.map (·.data.toList)) sep.data.toList).toArray⟩) := by
  refine pure_libJ ?_ ?_
  · rintro rfl a c w
    exact (Go.Proofs.Tryd.strings_Join_none a c sep w).mono fun e w' ⟨h, k⟩ => ⟨by rw [h]; rfl, k⟩
  · intro bk o c w h1 h2 h3
    exact Go.Proofs.Tryd.strings_Join bk o c xs sep w h1 h2 hN h3 hlen
theorem join.a2 : Pure prog 23 [.islice false 2 [.str ⟨#[105, 110, 112, 117, 116, 115]⟩, .str ⟨#[49]⟩], .str ⟨#[32]⟩] (.str ⟨#[105, 110, 112, 117, 116, 115, 32, 49]⟩) :=
  join.g false [⟨#[105, 110, 112, 117, 116, 115]⟩, ⟨#[49]⟩] ⟨#[32]⟩ (by decide) (by decide)
theorem join.a5 : Pure prog 23 [.islice false 5 [.str ⟨#[116, 48]⟩, .str ⟨#[61]⟩, .str ⟨#[120, 48]⟩, .str ⟨#[42]⟩, .str ⟨#[120, 48]⟩], .str ⟨#[32]⟩] (.str ⟨#[116, 48, 32, 61, 32, 120, 48, 32, 42, 32, 120, 48]⟩) :=
  join.g false [⟨#[116, 48]⟩, ⟨#[61]⟩, ⟨#[120, 48]⟩, ⟨#[42]⟩, ⟨#[120, 48]⟩] ⟨#[32]⟩ (by decide) (by decide)
theorem join.ao : Pure prog 23 [.islice false 2 [.str ⟨#[111, 117, 116, 115]⟩, .str ⟨#[116, 48]⟩], .str ⟨#[32]⟩] (.str ⟨#[111, 117, 116, 115, 32, 116, 48]⟩) :=
  join.g false [⟨#[111, 117, 116, 115]⟩, ⟨#[116, 48]⟩] ⟨#[32]⟩ (by decide) (by decide)
theorem cut.a : Pure prog 64 [.str ⟨#[105, 110, 112, 117, 116, 115, 32, 48, 49, 10]⟩, .str ⟨#[10]⟩] (.tup [.str ⟨#[105, 110, 112, 117, 116, 115, 32, 48, 49]⟩, .str ⟨#[]⟩, .bool true]) :=
  pure_lib (vals := [.string ⟨#[105, 110, 112, 117, 116, 115, 32, 48, 49, 10]⟩, .string ⟨#[10]⟩]) (u := .tuple #[.string ⟨#[105, 110, 112, 117, 116, 115, 32, 48, 49]⟩, .string ⟨#[]⟩, .bool true]) rfl (fun σ => .tup _ _ rfl (by
      intro j x y hx hy
      match j with
      | 0 => cases hx; cases hy; exact .str _
      | 1 => cases hx; cases hy; exact .str _
      | 2 => cases hx; cases hy; exact .bool _
      | j + 3 => simp at hx)) fun w hS => by
    obtain ⟨⟨m, hm⟩, _⟩ := hS
    exact (Go.Proofs.Tryd.strings_Cut ⟨#[105, 110, 112, 117, 116, 115, 32, 48, 49, 10]⟩ ⟨#[10]⟩ m w (by decide) hm).mono fun e w' ⟨h, n, k⟩ => ⟨by rw [h]; rfl, by rw [k]; exact below_drewN w n⟩
theorem split.a : Pure prog 75 [.str ⟨#[105, 110, 112, 117, 116, 115, 32, 48, 49]⟩, .str ⟨#[32]⟩] (.islice true 2 [.str ⟨#[105, 110, 112, 117, 116, 115]⟩, .str ⟨#[48, 49]⟩]) :=
  pure_libS (vals := [.string ⟨#[105, 110, 112, 117, 116, 115, 32, 48, 49]⟩, .string ⟨#[32]⟩]) (strs := [⟨#[105, 110, 112, 117, 116, 115]⟩, ⟨#[48, 49]⟩]) rfl fun w hS => by
    obtain ⟨⟨m, hm⟩, _⟩ := hS
    exact (Go.Proofs.Tryd.strings_Split ⟨#[105, 110, 112, 117, 116, 115, 32, 48, 49]⟩ ⟨#[32]⟩ m w (by decide) hm (by decide)).mono fun e w' ⟨h, k⟩ => ⟨by rw [h]; rfl, 9, by rw [k]; rfl⟩
theorem parse.a : Pure prog 78 [.str ⟨#[48, 49]⟩, .int .i64 10, .int .i64 64] (.tup [.int .u64 1, .lit .nilIface]) := by
  refine pure_lib (vals := [.string ⟨#[48, 49]⟩, .int .i64 10, .int .i64 64]) (u := .tuple #[.int .u64 1, .nilIface]) rfl (fun σ => .tup _ _ rfl (by
      intro j x y hx hy
      match j with
      | 0 => cases hx; cases hy; exact .int _ _
      | 1 => cases hx; cases hy; exact .lit _ rfl
      | j + 2 => simp at hx)) fun w _ => ?_
  refine (Go.Proofs.Tryd.strconv_ParseUint_10_at64_ok ⟨#[48, 49]⟩ (by decide) 1 rfl w).mono fun e w' ⟨h, k⟩ => ⟨by rw [h]; rfl, ?_⟩
  rcases k with rfl | rfl
  · exact Below.refl _ _
  · unfold Go.Lib.bytesWorld
    exact Go.Lib.below_freeze ((Below.drew (Below.refl w.heap.size w)).alloc (Nat.le_refl _) _) (p := ⟨w.heap.size, _, none⟩) (Nat.le_refl _) _

end Go.Proofs.YtginchgkbgcimaaDoor.C
