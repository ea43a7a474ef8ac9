/- The walk of ObjectSays. -/
import Derived.Test.YtbgbcmfgncneiaaObjB
namespace Go.Proofs.Ytbgbcmfgncneiaa
open Go.RowKit
set_option linter.unusedVariables false
set_option linter.unusedSimpArgs false

set_option maxRecDepth 100000 in
theorem objectSays_any (a : Option Addr) (n c : Nat) (l : List Int) (k key : Int) (around : Bool) (P : Int → Int → Int → Prop) (hP : ∀ x y z x' y' z', P x y z → P x' y' z' → x = x' ∧ y = y' ∧ z = z') (w : World)
    (h1 : ∀ w', Below w.heap.size w w' → Calls Try.prog 51 #[.slice a n c, .int .i64 k, .bool around, .int .i64 key] w' (Out3 P w'))
    (h2 : ∀ w', Below w.heap.size w w' → Calls Try.prog 52 #[.slice a n c, .int .i64 k, .bool around, .int .i64 key] w' (Out3 P w')) :
    Calls Try.prog 9 #[.slice a n c, .int .i64 k, .bool around, .int .i64 key] w fun e w' => e = .returned (.bool true) ∧ Below w.heap.size w w' := by
  have H1 := Lib.hid h1
  have H2 := Lib.hid h2
  clear h1 h2
  go_enter Try.func9, Try.ntmps9
  go_wp2_with fail
  refine (H1.out _ (Below.refl _ _)).mono ?_
  rintro e w1 ⟨x, y, z, rfl, hp, hb1⟩
  have HP1 := Lib.hid hp
  clear hp
  go_wp2_with fail
  refine (H2.out _ hb1).mono ?_
  rintro e w2 ⟨x', y', z', rfl, hp, hb2⟩
  obtain ⟨rfl, rfl, rfl⟩ := hP _ _ _ _ _ _ HP1.out hp
  have hbb := below_then hb1 hb1.size hb2
  clear hp HP1
  go_wp2
  go_ret
  exact ⟨ret1_bool (by simp), hbb⟩

theorem objectSays_walk (a : Option Addr) (n c : Nat) (l : List Int) (k key : Int) (around : Bool) (w : World) (ha : Ints w a l) (hn : l.length = n) (h3 : n ≤ 9223372036854775807) (hc : n ≤ c) (hc2 : c ≤ 9223372036854775807) :
    Calls Try.prog 9 #[.slice a n c, .int .i64 k, .bool around, .int .i64 key] w fun e w' => e = .returned (.bool true) ∧ Below w.heap.size w w' := by
  by_cases hbig : 4096 < n
  · exact objectSays_any a n c l k key around _ (by rintro x y z x' y' z' ⟨rfl, rfl, rfl⟩ ⟨rfl, rfl, rfl⟩; exact ⟨rfl, rfl, rfl⟩) w (fun w' _ => object_of_large a n c k key around w' hbig h3) (fun w' _ => ref_object_large a n c k key around w' hbig h3)
  · by_cases hk : k < 0 ∨ (0 < k ∧ (n : Int) ≤ k)
    · exact objectSays_any a n c l k key around _ (by rintro x y z x' y' z' ⟨rfl, rfl, rfl⟩ ⟨rfl, rfl, rfl⟩; exact ⟨rfl, rfl, rfl⟩) w (fun w' _ => object_of_arg a n c k key around w' (by omega) hk) (fun w' _ => ref_object_arg a n c k key around w' (by omega) hk)
    · obtain ⟨j, rfl⟩ : ∃ j : Nat, k = j := ⟨k.toNat, by omega⟩
      exact objectSays_any a n c l j key around (OfP l (pRun l n n).out around j key) (fun x y z x' y' z' h h' => h.one h') w (fun w' hb => object_of_in a n c l j around key w' (ha.below hb) hn (by omega) (by omega)) (fun w' hb => ref_object_in a n c l j around key w' (ha.below hb) hn (by omega) hc hc2 (by omega))

end Go.Proofs.Ytbgbcmfgncneiaa
