/- Contract of fairref.More. -/
import Derived.Test.YtmipnikhgihcpaaTrieE
namespace Go.Proofs.Ytmipnikhgihcpaa
open Go.RowKit
set_option linter.unusedVariables false
set_option linter.unusedSimpArgs false

/-- at place k a word parts from the first one -/
def parts (X : List (List Int)) (k : Nat) (i : Nat) : Prop := (rx X i).length ≤ k ∨ ix (rx X i) k ≠ ix (rx X 0) k
def MoreK (X : List (List Int)) (n k : Nat) : Prop := n ≤ k ∧ k ≤ (rx X 0).length ∧ (∀ j, n ≤ j → j < k → ∀ i, i < X.length → ¬ parts X j i) ∧ ∃ i, i < X.length ∧ parts X k i

set_option maxRecDepth 100000 in
set_option maxHeartbeats 4000000 in
theorem ref_more (lv : Value) (vs : List Value) (X : List (List Int)) (n : Nat) (w : World) (hV : Vs w lv vs) (hL : Lists w vs X) (h0 : 0 < X.length) (hn : n ≤ (rx X 0).length) (h24 : ∀ i, i < X.length → (rx X i).length ≤ 1000000) :
    Calls Try.prog 78 #[lv, .int .i64 (n : Int)] w (fun e w' => ∃ k v, e = .returned v ∧ MoreK X n k ∧ Sl w' v (((rx X 0).take k).drop n) ∧ Below w.heap.size w w') := by
  obtain ⟨la, ln, lc, rfl, hl1, hl2, hl3, hl4, hl5⟩ := hV
  have hll : X.length = ln := by rw [← hL.len]; exact hl1
  obtain ⟨a0, n0, c0, e0, t1, t2, t3, t4, t5⟩ := hL.sl 0 h0
  obtain ⟨b1, o1, rfl, hc⟩ := hl4.at (k := 0) (by rw [hl1, ← hll]; exact h0)
  have HX := Lib.hid hll; have HL := Lib.hid hL; have HV := Lib.hid hc; have HN := Lib.hid hl1; have H24 := Lib.hid h24; have HE0 := Lib.hid e0; have HT4 := Lib.hid t4; have HT1 := Lib.hid t1
  have c00 := hc 0 (by rw [hl1, ← hll]; exact h0)
  rw [e0, Nat.add_zero] at c00
  have hn0 : n0 ≤ 1000000 := by rw [← t1]; exact h24 0 h0
  have hnn : n ≤ n0 := by rw [← t1]; exact hn
  have h0l : (0 : Int) < (ln : Int) := by omega
  clear hll hl1 hl4 hl5 hL hc h24 e0 t1 t4 hn
  go_enter Try.func78, Try.ntmps78
  go_wp2
  go_loopw [5] (fun v wr => ∃ k : Nat, v = .int .i64 (k : Int) ∧ n ≤ k ∧ k ≤ n0 ∧ (∀ j, n ≤ j → j < k → ∀ i, i < X.length → ¬ parts X j i) ∧ Below w.heap.size w wr ∧ (k = n0 → True)) (fun v _ => n0 + 1 - (intOf v).toNat)
  case atStart => exact ⟨n, rfl, by omega, hnn, fun j h1 h2 => by omega, Below.refl _ _, fun _ => trivial⟩
  case round =>
    obtain ⟨k, rfl, hk1, hk2, hpar, hbel, -⟩ := hrel
    have HPAR := Lib.hid hpar; have HB := Lib.hid hbel
    clear hpar hbel
    go_wp2
    have HSL := Lib.hid (fun (w' : World) (hb : Below w.heap.size w w') => show Sl w' (.slice (cutA a0 c0 n) (k - n) (c0 - n)) (((rx X 0).take k).drop n) from
      ⟨_, _, _, rfl, by rw [List.length_drop, List.length_take, HT1.out]; omega, by omega, by omega, (HT4.out.below hb).cutTo n k (by rw [HT1.out]; exact t2) hk1 (by rw [HT1.out]; exact hk2), fun h => by have := t5 (cutA_none h); omega⟩)
    have HMK := Lib.hid (fun (i : Nat) (hi : i < X.length) (hp : parts X k i) => show MoreK X n k from ⟨hk1, by rw [HT1.out]; exact hk2, HPAR.out, i, hi, hp⟩)
    have hcut := cut_run a0 n0 c0 n k hk1 (by omega)
    go_loopw [11] (fun v wi => ∃ i : Nat, v = .int .i64 (i : Int) ∧ i ≤ ln ∧ (∀ q, q < i → ¬ parts X k q) ∧ Below w.heap.size w wi) (fun v _ => ln - (intOf v).toNat)
    case atStart => exact ⟨0, rfl, by omega, fun q hq => by omega, HB.out⟩
    case round =>
      obtain ⟨i, rfl, hi, hq, hbi⟩ := hrel
      have HQ := Lib.hid hq; have HBI := Lib.hid hbi
      have c00' : wr.cell? ⟨b1, o1, none⟩ = some (.slice a0 n0 c0) := (hbi.cell (cell_lt c00)).trans c00
      by_cases hlt : i < ln
      · have hix : i < X.length := by rw [HX.out]; exact hlt
        have cv := HV.out i (by rw [HN.out]; exact hlt)
        obtain ⟨a1, n1, c1, e1, s1, s2, s3, s4, s5⟩ := HL.out.sl i hix
        rw [e1] at cv
        have cv' : wr.cell? ⟨b1, o1 + i, none⟩ = some (.slice a1 n1 c1) := (hbi.cell (cell_lt cv)).trans cv
        have hi0 : (0 : Int) ≤ (i : Int) := by omega
        have hin : (i : Int) < (ln : Int) := by omega
        by_cases hle : n1 ≤ k
        · have hl : (n1 : Int) ≤ (k : Int) := by omega
          have HPT := Lib.hid (HMK.out i hix (.inl (by rw [s1]; exact hle)))
          clear hq hbi cv e1 s1 s2 s3 s4 s5
          go_wp2
          go_region
          go_wp2
          go_ret
          exact ⟨k, _, rfl, HPT.out, HSL.out _ HBI.out.drew, HBI.out.drew⟩
        · have hl : ¬ (n1 : Int) ≤ (k : Int) := by omega
          have hk0 : k < n0 := by
            rcases Nat.eq_zero_or_pos i with e | e
            · subst e; rw [← HT1.out, s1]; omega
            · have h := hq 0 e
              rw [← HT1.out]
              exact Nat.lt_of_not_le (fun g => h (.inl g))
          obtain ⟨bi, oi, rfl, hci⟩ := s4.at (k := k) (by rw [s1]; omega)
          obtain ⟨bz, oz, rfl, hcz⟩ := HT4.out.at (k := k) (by rw [HT1.out]; exact hk0)
          have ci := hci k (by rw [s1]; omega)
          have cz := hcz k (by rw [HT1.out]; exact hk0)
          have ci' : wr.cell? ⟨bi, oi + k, none⟩ = some (.int .i64 (ix (rx X i) k)) := (hbi.cell (cell_lt ci)).trans ci
          have cz' : wr.cell? ⟨bz, oz + k, none⟩ = some (.int .i64 (ix (rx X 0) k)) := (hbi.cell (cell_lt cz)).trans cz
          have hk00 : (0 : Int) ≤ (k : Int) := by omega
          have hkn1 : (k : Int) < (n1 : Int) := by omega
          have hkn0 : (k : Int) < (n0 : Int) := by omega
          obtain ⟨p, hp⟩ : ∃ p, ix (rx X i) k = p := ⟨_, rfl⟩
          obtain ⟨q, hqq⟩ : ∃ q, ix (rx X 0) k = q := ⟨_, rfl⟩
          rw [hp] at ci'; rw [hqq] at cz'
          by_cases heq : p = q
          · subst heq
            have HNP := Lib.hid (show ¬ parts X k i from fun h => by
              rcases h with h | h
              · rw [s1] at h; omega
              · exact h (hp.trans hqq.symm))
            clear hq hbi cv e1 s1 s2 s3 s4 s5 hci hcz ci cz hp hqq
            go_wp2
            go_region
            go_wp2
            refine ⟨⟨i + 1, by go_num, by omega, fun q hq => ?_, HBI.out.drew⟩, by simp [intOf]; omega⟩
            rcases Nat.lt_succ_iff_lt_or_eq.1 hq with h | rfl
            · exact HQ.out q h
            · exact HNP.out
          · have HPT := Lib.hid (HMK.out i hix (.inr (by rw [hp, hqq]; exact heq)))
            have hne : (p == q) = false := by simpa using heq
            clear hq hbi cv e1 s1 s2 s3 s4 s5 hci hcz ci cz hp hqq
            go_wp2
            go_region
            go_wp2
            go_ret
            exact ⟨k, _, rfl, HPT.out, HSL.out _ HBI.out.drew, HBI.out.drew⟩
      · obtain rfl : i = ln := by omega
        have hk0 : k < n0 := by
          have h := hq 0 (by omega)
          rw [← HT1.out]
          exact Nat.lt_of_not_le (fun g => h (.inl g))
        clear hq hbi
        go_wp2
        refine ⟨⟨k + 1, by go_num, by omega, by omega, fun j h1 h2 q hq2 => ?_, HBI.out, fun _ => trivial⟩, by simp [intOf]; omega⟩
        rcases Nat.lt_succ_iff_lt_or_eq.1 h2 with h | rfl
        · exact HPAR.out j h1 h q hq2
        · exact HQ.out q (by rw [← HX.out]; exact hq2)

end Go.Proofs.Ytmipnikhgihcpaa
