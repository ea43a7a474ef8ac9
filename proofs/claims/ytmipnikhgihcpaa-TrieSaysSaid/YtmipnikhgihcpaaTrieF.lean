/- Contract of slices.ContainsFunc as the law of TrieSays calls it: is p among the words? -/
import Derived.Test.YtmipnikhgihcpaaTrieE
namespace Go.Proofs.Ytmipnikhgihcpaa
open Go.RowKit
set_option linter.unusedVariables false
set_option linter.unusedSimpArgs false

set_option maxRecDepth 100000 in
theorem trie_is (a b : Option Addr) (n m c d B : Nat) (x p : List Int) (t : Bool) (ht : t = decide (x = p)) (w : World) (ha : Ints w a x) (hb : Ints w b p) (hn : x.length = n) (hm : p.length = m) (hn2 : n ≤ 9223372036854775807) (hB : w.cell? ⟨B, 0, none⟩ = some (.slice b m d)) :
    Calls Try.prog 76 #[.slice a n c, .pointer (some ⟨B, 0, none⟩)] w (fun e w' => e = .returned (.bool t) ∧ Below w.heap.size w w') := by
  have HE := Lib.hid (slices_eqb a b n m c d x p t (by rw [ht, decide_eq_true_eq]) w ha hb hn hm hn2)
  clear ha hb hn hm ht
  go_enter Try.func76, Try.ntmps76
  go_wp2_with (go_at_call 22; go_loud (refine (HE.out).mono ?_; rintro e w3 ⟨rfl, nd, rfl⟩))
  go_ret
  exact ⟨rfl, below_dn (Below.refl _ _) nd⟩

def IdxP (X : List (List Int)) (p : List Int) (r : Int) : Prop := (∃ k, k < X.length ∧ rx X k = p ∧ r = (k : Int)) ∨ ((∀ k, k < X.length → rx X k ≠ p) ∧ r = -1)
theorem IdxP.any {X : List (List Int)} {p : List Int} {r : Int} (h : IdxP X p r) : decide (0 ≤ r) = decide (p ∈ X) := by
  rcases h with ⟨k, h1, h2, rfl⟩ | ⟨h1, rfl⟩
  · have : p ∈ X := by rw [← h2, rx_at h1]; exact List.getElem_mem h1
    simp [this]
  · have : p ∉ X := fun h => by
      obtain ⟨k, hk, e⟩ := List.mem_iff_getElem.1 h
      exact h1 k hk (by rw [rx_at hk, e])
    simp [this]

set_option maxRecDepth 100000 in
set_option maxHeartbeats 1000000 in
theorem trie_index (lv : Value) (vs : List Value) (X : List (List Int)) (b : Option Addr) (m d B : Nat) (p : List Int) (w : World) (hV : Vs w lv vs) (hL : Lists w vs X) (hb : Ints w b p) (hm : p.length = m) (hB : w.cell? ⟨B, 0, none⟩ = some (.slice b m d)) :
    Calls Try.prog 63 #[lv, .func (.func 76) #[] #[.pointer (some ⟨B, 0, none⟩)]] w fun e w' => ∃ r, e = .returned (.int .i64 r) ∧ IdxP X p r ∧ Below w.heap.size w w' := by
  obtain ⟨la, ln, lc, rfl, hl1, hl2, hl3, hl4, hl5⟩ := hV
  have hll : X.length = ln := by rw [← hL.len]; exact hl1
  have HX := Lib.hid hll; have HL := Lib.hid hL; have HV := Lib.hid hl4; have HN := Lib.hid hl1; have HP := Lib.hid hb; have HM := Lib.hid hm; have HB := Lib.hid hB
  clear hll hl1 hl4 hl5 hL hb hm hB
  go_enter Try.func63, Try.ntmps63
  go_wp2
  go_loopw [8] (fun i wr => ∃ k : Nat, i = .int .i64 (k : Int) ∧ k ≤ ln ∧ (∀ j, j < k → rx X j ≠ p) ∧ Below w.heap.size w wr) (fun i _ => ln - (intOf i).toNat)
  case atStart => exact ⟨0, rfl, by omega, fun j hj => by omega, Below.refl _ _⟩
  case round =>
    obtain ⟨k, rfl, hk, hno, hbel⟩ := hrel
    have HNO := Lib.hid hno; clear hno
    by_cases hlt : k < ln
    · have hjv : k < vs.length := by rw [HN.out]; exact hlt
      have hjx : k < X.length := by rw [HX.out]; exact hlt
      obtain ⟨b1, o1, rfl, hc⟩ := HV.out.at hjv
      have cv := hc k hjv
      obtain ⟨a1, n1, c1, e1, s1, s2, s3, s4, s5⟩ := HL.out.sl k hjx
      rw [e1] at cv
      have cv' : wr.cell? ⟨b1, o1 + k, none⟩ = some (.slice a1 n1 c1) := by rw [hbel.cell (cell_lt cv)]; exact cv
      have i0 : (0 : Int) ≤ (k : Int) := by omega
      have i1 : (k : Int) < (ln : Int) := by omega
      obtain ⟨t, ht⟩ : ∃ t, t = decide (rx X k = p) := ⟨_, rfl⟩
      have HC := Lib.hid (trie_is a1 b n1 m c1 d B (rx X k) p t ht wr (s4.below hbel) (HP.out.below hbel) s1 HM.out (by omega) ((hbel.cell (cell_lt HB.out)).trans HB.out))
      have HT := Lib.hid ht; have HBE := Lib.hid hbel
      have hbs := hbel.size
      have HV2 := Lib.hid (show Vals w (some ⟨b1, o1, none⟩) vs from HV.out)
      clear hc cv e1 s1 s2 s3 s4 s5 ht hbel HV
      cases t with
      | false =>
        go_wp2_with (go_at_call 76; go_loud (refine (HC.out).mono ?_; rintro e w3 ⟨rfl, hb3⟩))
        refine ⟨⟨k + 1, by go_num, by omega, fun j hj => ?_, HBE.out.trans (hb3.mono hbs)⟩, by simp [intOf]; omega⟩
        rcases Nat.lt_succ_iff_lt_or_eq.1 hj with h | rfl
        · exact HNO.out j h
        · have := HT.out; simpa using this.symm
      | true =>
        go_wp2_with (go_at_call 76; go_loud (refine (HC.out).mono ?_; rintro e w3 ⟨rfl, hb3⟩))
        go_ret
        exact ⟨_, rfl, .inl ⟨k, hjx, by have := HT.out; simpa using this.symm, rfl⟩, HBE.out.trans (hb3.mono hbs)⟩
    · have HR := Lib.hid (show IdxP X p (-1) from Or.inr (And.intro (fun j hj => HNO.out j (by rw [HX.out] at hj; omega)) rfl))
      have hno : ¬ (k : Int) < (ln : Int) := by omega
      go_wp2
      go_ret
      exact ⟨_, rfl, HR.out, hbel⟩
theorem trie_contains (lv : Value) (vs : List Value) (X : List (List Int)) (b : Option Addr) (m d B : Nat) (p : List Int) (w : World) (hV : Vs w lv vs) (hL : Lists w vs X) (hb : Ints w b p) (hm : p.length = m) (hB : w.cell? ⟨B, 0, none⟩ = some (.slice b m d)) :
    Calls Try.prog 55 #[lv, .func (.func 76) #[] #[.pointer (some ⟨B, 0, none⟩)]] w fun e w' => e = .returned (.bool (decide (p ∈ X))) ∧ Below w.heap.size w w' := by
  have HI := Lib.hid (trie_index lv vs X b m d B p w hV hL hb hm hB)
  obtain ⟨la, ln, lc, rfl, -⟩ := hV
  clear hL hb hm hB
  go_enter Try.func55, Try.ntmps55
  go_wp2_with (go_at_call 63; go_loud (refine (HI.out).mono ?_; rintro e w3 ⟨r, rfl, hr, hb3⟩))
  go_ret
  exact ⟨ret1_bool hr.any, hb3⟩

end Go.Proofs.Ytmipnikhgihcpaa
