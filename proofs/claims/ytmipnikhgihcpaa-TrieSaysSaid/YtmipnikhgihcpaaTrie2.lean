/- Contract of (*trie.Trie).put. -/
import Derived.Test.YtmipnikhgihcpaaTrie1
import Derived.Test.YtmipnikhgihcpaaCut
import Derived.WalkSpells
import Derived.Deep.DeepCutAuto
import Derived.Deep.CutBlock
namespace Go.Proofs.Ytmipnikhgihcpaa
open Go.RowKit
set_option linter.unusedVariables false
set_option linter.unusedSimpArgs false

def zPut (S : List (List Int)) (pre u p : List Int) : Nat := if pre.length ≤ p.length then cnt (insT S u) p else cnt S p
def PutT (base : Nat) (A S : List (List Int)) (B : Nat → Nat) (pre u : List Int) (w : World) (e : Ending) (w' : World) : Prop :=
  e = .returned (.bool (!inS S u)) ∧ ∃ A' B' M', A <+: A' ∧ (∀ i, i < A.length → B' i = B i) ∧ TInv A' (insT S u) ∧ TrH w' base A' B' M' (inS (insT S u)) (zPut S pre u) ∧ Below base w w' ∧ A'.length ≤ A.length + (u.length - pre.length) ∧ ∀ q ∈ A', q ∈ A ∨ q <+: u
theorem insT_yes {S : List (List Int)} {u : List Int} (h : inS S u = true) : insT S u = S := by
  unfold insT; rw [if_pos (by unfold inS at h; simpa using h)]
theorem zPut_yes {S : List (List Int)} {u : List Int} (h : inS S u = true) (pre p : List Int) : zPut S pre u p = cnt S p := by
  unfold zPut; rw [insT_yes h]; split <;> rfl
theorem inS_ins (S : List (List Int)) (u p : List Int) : inS (insT S u) p = (inS S p || decide (p = u)) := by
  unfold inS
  rw [← Bool.decide_or]
  simp only [insT_mem]
theorem prefix_len {p u : List Int} (h : p <+: u) (hl : u.length ≤ p.length) : p = u := List.IsPrefix.eq_of_length h (Nat.le_antisymm h.length_le hl)
/-- what the new word leaves of the sizes at its end -/
theorem zPut_end {S : List (List Int)} {u : List Int} (h : inS S u = false) : zPut S u u u = cnt S u + 1 := by
  unfold zPut inS at *
  rw [if_pos (Nat.le_refl _), cnt_ins, if_pos ⟨by simpa using h, List.prefix_refl u⟩]
theorem zPut_other {S : List (List Int)} {u p : List Int} (h : p ≠ u) : zPut S u u p = cnt S p := by
  unfold zPut
  by_cases hl : u.length ≤ p.length
  · rw [if_pos hl, cnt_ins, if_neg, Nat.add_zero]
    exact fun g => h (prefix_len g.2 hl)
  · rw [if_neg hl]
/-- one node higher -/
theorem zPut_here {S : List (List Int)} {u pre : List Int} {c : Int} (h : inS S u = false) (hp : pre <+: u) : zPut S pre u pre = zPut S (pre ++ [c]) u pre + 1 := by
  unfold zPut inS at *
  rw [if_pos (Nat.le_refl _), if_neg (by simp), cnt_ins, if_pos ⟨by simpa using h, hp⟩]
theorem zPut_up {S : List (List Int)} {u pre p : List Int} {c : Int} (hp : pre <+: u) (hne : p ≠ pre) : zPut S pre u p = zPut S (pre ++ [c]) u p := by
  unfold zPut
  rw [List.length_append, List.length_singleton]
  by_cases hl : pre.length + 1 ≤ p.length
  · rw [if_pos (by omega), if_pos hl]
  · rw [if_neg hl]
    by_cases hl2 : pre.length ≤ p.length
    · rw [if_pos hl2, cnt_ins, if_neg, Nat.add_zero]
      rintro ⟨_, g⟩
      exact hne (List.IsPrefix.eq_of_length (List.prefix_of_prefix_length_le g hp (by omega)) (by omega))
    · rw [if_neg hl2]

set_option maxRecDepth 100000 in
set_option maxHeartbeats 1000000 in
theorem trie_put0 (base : Nat) (A S : List (List Int)) (B : Nat → Nat) (M : Nat → Option Nat) (a : Option Addr) (c x : Nat) (u : List Int) (w : World) (hS : S.length ≤ 1000) (hx : x < A.length) (hu : rx A x = u) (hI : TInv A S) (hH : TrH w base A B M (inS S) (cnt S)) :
    Calls Try.prog 134 #[.pointer (some ⟨B x, 0, none⟩), .slice a 0 c] w (PutT base A S B u u w) := by
  have hB := hH.blk x hx
  rw [hu] at hB
  obtain ⟨y0, y1, y2, g0, g1, g2⟩ := hB.three
  obtain ⟨b, hb⟩ : ∃ b, inS S u = b := ⟨_, rfl⟩
  obtain ⟨z, hz⟩ : ∃ z, cnt S u = z := ⟨_, rfl⟩
  have hz1 : z ≤ 1000 := by rw [← hz]; exact Nat.le_trans (cnt_le S u) hS
  rw [hb] at y1
  rw [hz] at y2
  have HH := Lib.hid hH; have HBB := Lib.hid hb; have HZ := Lib.hid hz; have HU := Lib.hid hu
  have HM := Lib.hid (hI.word (u := u) (by rw [← hu]; exact rx_memT hx))
  clear hB hH hb hz hu hI
  cases b with
  | true =>
    go_enter Try.func134, Try.ntmps134
    go_wp2
    go_ret
    refine ⟨by rw [HBB.out]; rfl, A, B, M, List.prefix_refl _, fun _ _ => rfl, HM.out, HH.out.same (fun j hj => by rw [insT_yes HBB.out]) (fun j hj => zPut_yes HBB.out _ _), Below.refl _ _, Nat.le_add_right _ _, fun q hq => .inl hq⟩
  | false =>
    have iw : IntKind.i64.wrap ((z : Int) + 1) = ((z + 1 : Nat) : Int) := by rw [IntKind.wrap_i64]; omega
    go_enter Try.func134, Try.ntmps134
    go_wp2
    go_ret
    have hne : ∀ j, j < A.length → j ≠ x → rx A j ≠ u := fun j hj e1 e2 => e1 (rx_inj HM.out.nodup hj hx (e2.trans HU.out.symm))
    refine ⟨by rw [HBB.out]; rfl, A, B, M, List.prefix_refl _, fun _ _ => rfl, HM.out, ?_, ?_, Nat.le_add_right _ _, fun q hq => .inl hq⟩
    · refine (HH.out.word hx (Wf' := inS (insT S u)) (b := true) (by rw [inS_ins, HU.out]; simp) (fun j hj e => by rw [inS_ins]; simp [hne j hj e])).size hx (by rw [HU.out, zPut_end HBB.out, HZ.out]; rfl) (fun j hj e => zPut_other (hne j hj e))
    · exact ((Below.refl base w).setCell (HH.out.geB x hx) _).setCell (HH.out.geB x hx) _

end Go.Proofs.Ytmipnikhgihcpaa
