/- Contracts of goer's find, partner. -/
import Derived.Test.YtbgbcmfgncneiaaMot2
import Derived.Test.YtbgbcmfgncneiaaDyckW
namespace Go.Proofs.Ytbgbcmfgncneiaa
open Go.RowKit
set_option linter.unusedVariables false
set_option linter.unusedSimpArgs false

def fiA (r : Option Int) : Int := match r with | some x => x | none => 0
def fiE (r : Option Int) : Int := match r with | some x => 0 | none => 5
def FiPost (r : Option Int) (w : World) (e : Ending) (w' : World) : Prop := e = .returned (.tuple #[.int .i64 (fiA r), .int .i64 (fiE r)]) ∧ Below w.heap.size w w'
theorem FiPost.of {r : Option Int} {A E : Int} {w w' : World} (h : r = if E = 0 then some A else none) (hE : E = 0 ∨ (E = 5 ∧ A = 0)) (hb : Below w.heap.size w w') : FiPost r w (.returned (.tuple #[.int .i64 A, .int .i64 E])) w' := by
  subst h
  rcases hE with rfl | ⟨rfl, rfl⟩
  · exact ⟨rfl, hb⟩
  · exact ⟨rfl, hb⟩

set_option maxRecDepth 100000 in
set_option maxHeartbeats 1000000 in
theorem goer_find_up (a : Option Addr) (n c : Nat) (l : List Int) (k m : Nat) (op : Bool) (ch : Int) (w : World) (hl : Ints w a l) (hn : l.length = n) (hn2 : n ≤ 4096) (hk : k ≤ n) (hm0 : 1 ≤ m) (hm : m ≤ 1000) :
    Calls Try.prog 169 #[goV a n c k (m : Int) op, .int .i64 ch, .int .i64 1] w (FiPost ((placesR l k ch)[m - 1]?) w) := by
  unfold goV
  have HR := Lib.hid (show (plU l ch (k + 1) (n - (k + 1)))[m - 1]? = (placesR l k ch)[m - 1]? by rw [placesR, hn])
  have HN := Lib.hid hn
  clear hn
  have hB := Blk.new w #[.slice a n c, .int .i64 (k : Int), .int .i64 (m : Int), .bool op] 202
  obtain ⟨c0, c1, c2, c3⟩ := hB.four
  have hacc := below1 w (.cells #[.slice a n c, .int .i64 (k : Int), .int .i64 (m : Int), .bool op] 202)
  have hI := hl.below hacc
  go_enter Try.func169, Try.ntmps169
  go_wp2
  go_loop [8, 9] (fun mv iv => ∃ i m' : Nat, mv = .int .i64 (m' : Int) ∧ iv = .int .i64 (i : Int) ∧ i ≤ n + 1 ∧ 1 ≤ m' ∧ m' ≤ m ∧ (plU l ch i (n - i))[m' - 1]? = (placesR l k ch)[m - 1]?) (fun _ iv => n + 1 - (intOf iv).toNat)
  case atStart => exact ⟨k + 1, m, rfl, by go_num, by omega, by omega, by omega, HR.out⟩
  case round =>
    obtain ⟨i, m', rfl, rfl, hi, hm1, hm2, hp⟩ := hrel
    by_cases hlt : i < n
    · obtain ⟨b1, o1, rfl, hc⟩ := hI.at (k := i) (by rw [HN.out]; exact hlt)
      have e1 := hc i (by rw [HN.out]; exact hlt)
      rw [show n - i = (n - (i + 1)) + 1 from by omega] at hp
      clear hc hl hI
      by_cases hh : ix l i = ch
      · rw [plU_hit hh] at hp
        have hb : (ix l i == ch) = true := by simpa using hh
        clear hh
        by_cases h1 : m' = 1
        · subst h1
          have HP := Lib.hid hp.symm
          clear hp
          go_wp2
          go_ret2
          exact FiPost.of HP.out (.inl rfl) hacc
        · have HP := Lib.hid (show (plU l ch (i + 1) (n - (i + 1)))[m' - 1 - 1]? = (placesR l k ch)[m - 1]? by
            rw [← hp, show m' - 1 = (m' - 1 - 1) + 1 from by omega]; simp)
          have hz : ((m' : Int) - 1 == 0) = false := by simp; omega
          clear hp
          go_wp2
          go_round
          case rel => exact ⟨i + 1, m' - 1, by congr 1; omega, by go_num, by omega, by omega, by omega, HP.out⟩
          case measure => simp [intOf]; omega
      · rw [plU_miss hh] at hp
        have hb : (ix l i == ch) = false := by simpa using hh
        have HP := Lib.hid hp
        clear hh hp
        go_wp2
        go_round
        case rel => exact ⟨i + 1, m', rfl, by go_num, by omega, by omega, by omega, HP.out⟩
        case measure => simp [intOf]; omega
    · rw [show n - i = 0 from by omega] at hp
      have HP := Lib.hid (show (placesR l k ch)[m - 1]? = none by rw [← hp]; simp [plU])
      clear hp hI hl
      go_wp2
      go_ret2
      exact FiPost.of HP.out (.inr ⟨rfl, rfl⟩) hacc

set_option maxRecDepth 100000 in
set_option maxHeartbeats 1000000 in
theorem goer_find_down (a : Option Addr) (n c : Nat) (l : List Int) (k m : Nat) (op : Bool) (ch : Int) (w : World) (hl : Ints w a l) (hn : l.length = n) (hn2 : n ≤ 4096) (hk : k ≤ n) (hm0 : 1 ≤ m) (hm : m ≤ 1000) :
    Calls Try.prog 169 #[goV a n c k (m : Int) op, .int .i64 ch, .int .i64 (-1)] w (FiPost ((placesL l k ch)[m - 1]?) w) := by
  unfold goV
  have HR := Lib.hid (show (plD l ch k)[m - 1]? = (placesL l k ch)[m - 1]? from rfl)
  have HN := Lib.hid hn
  clear hn
  have hB := Blk.new w #[.slice a n c, .int .i64 (k : Int), .int .i64 (m : Int), .bool op] 202
  obtain ⟨c0, c1, c2, c3⟩ := hB.four
  have hacc := below1 w (.cells #[.slice a n c, .int .i64 (k : Int), .int .i64 (m : Int), .bool op] 202)
  have hI := hl.below hacc
  go_enter Try.func169, Try.ntmps169
  go_wp2
  go_loop [8, 9] (fun mv iv => ∃ i m' : Nat, mv = .int .i64 (m' : Int) ∧ iv = .int .i64 ((i : Int) - 1) ∧ i ≤ n ∧ 1 ≤ m' ∧ m' ≤ m ∧ (plD l ch i)[m' - 1]? = (placesL l k ch)[m - 1]?) (fun _ iv => (intOf iv + 1).toNat)
  case atStart => exact ⟨k, m, rfl, by first | rfl | (congr 1), by omega, by omega, by omega, HR.out⟩
  case round =>
    obtain ⟨i, m', rfl, rfl, hi, hm1, hm2, hp⟩ := hrel
    rcases i with _ | i
    · have HP := Lib.hid (show (placesL l k ch)[m - 1]? = none by rw [← hp]; simp [plD])
      clear hp hI hl
      go_wp2
      go_ret2
      exact FiPost.of HP.out (.inr ⟨rfl, rfl⟩) hacc
    · have hlt : i < n := by omega
      rw [show (((i + 1 : Nat) : Int) - 1) = (i : Int) from by omega]
      obtain ⟨b1, o1, rfl, hc⟩ := hI.at (k := i) (by rw [HN.out]; exact hlt)
      have e1 := hc i (by rw [HN.out]; exact hlt)
      clear hc hl hI
      by_cases hh : ix l i = ch
      · rw [plD_hit hh] at hp
        have hb : (ix l i == ch) = true := by simpa using hh
        clear hh
        by_cases h1 : m' = 1
        · subst h1
          have HP := Lib.hid hp.symm
          clear hp
          go_wp2
          go_ret2
          exact FiPost.of HP.out (.inl rfl) hacc
        · have HP := Lib.hid (show (plD l ch i)[m' - 1 - 1]? = (placesL l k ch)[m - 1]? by
            rw [← hp, show m' - 1 = (m' - 1 - 1) + 1 from by omega]; simp)
          have hz : ((m' : Int) - 1 == 0) = false := by simp; omega
          clear hp
          go_wp2
          go_round
          case rel => exact ⟨i, m' - 1, by congr 1; omega, by first | rfl | (congr 1), by omega, by omega, by omega, HP.out⟩
          case measure => simp [intOf]; omega
      · rw [plD_miss hh] at hp
        have hb : (ix l i == ch) = false := by simpa using hh
        have HP := Lib.hid hp
        clear hh hp
        go_wp2
        go_round
        case rel => exact ⟨i, m', rfl, by first | rfl | (congr 1), by omega, by omega, by omega, HP.out⟩
        case measure => simp [intOf]; omega

theorem other_open (c : Int) : otherS c ≠ 0 ↔ openS c ≠ 0 := by
  unfold otherS openS
  (repeat' split) <;> simp_all <;> omega
/-- %'s answer -/
def partS (l : List Int) (k : Nat) : Option (Int × Bool) := if partF l k < 0 then none else some (partF l k, true)

theorem partF_hit {l : List Int} {k i : Nat} (hk : k ≤ i) (hi : i < l.length) (h : openS (ix l i) ≠ 0) (hno : ∀ t, k ≤ t → t < i → openS (ix l t) = 0) : partF l k = ix (pRun l l.length l.length).out i := by
  unfold partF
  split
  · rename_i r hr
    obtain ⟨h1, h2, h3, h4⟩ := seekUp_some hr
    simp at h3
    rcases Nat.lt_trichotomy r i with h' | h' | h'
    · exact absurd (hno r h1 h') h3
    · rw [h']
    · have := h4 i hk h'; simp at this; exact absurd this h
  · rename_i hr
    have := seekUp_none hr i hk (by omega)
    simp at this; exact absurd this h
theorem partF_none {l : List Int} {k : Nat} (hno : ∀ t, k ≤ t → t < l.length → openS (ix l t) = 0) : partF l k = -1 := by
  unfold partF
  split
  · rename_i r hr
    obtain ⟨h1, h2, h3, h4⟩ := seekUp_some hr
    simp at h3
    exact absurd (hno r h1 (by omega)) h3
  · rfl

set_option maxRecDepth 100000 in
set_option maxHeartbeats 1000000 in
theorem goer_partner (a : Option Addr) (n c : Nat) (l : List Int) (k : Nat) (m : Int) (op : Bool) (w : World) (hl : Ints w a l) (hn : l.length = n) (hn2 : n ≤ 4096) (hk : k ≤ n) :
    Calls Try.prog 176 #[goV a n c k m op] w (MoPost (partS l k) w) := by
  unfold goV
  have HN := Lib.hid hn
  clear hn
  have hB := (Blk.new w #[.slice a n c, .int .i64 (k : Int), .int .i64 m, .bool op] 202).alloc (.cells #[.int .i64 0, .bool false] 204)
  obtain ⟨c0, c1, c2, c3⟩ := hB.four
  have hP := Blk.new (w.alloc (.cells #[.slice a n c, .int .i64 (k : Int), .int .i64 m, .bool op] 202)) #[.int .i64 0, .bool false] 204
  rw [World.size_alloc] at hP
  have hacc := below2 w (.cells #[.slice a n c, .int .i64 (k : Int), .int .i64 m, .bool op] 202) (.cells #[.int .i64 0, .bool false] 204)
  have hI := hl.below hacc
  go_enter Try.func176, Try.ntmps176
  go_wp2_with fail
  refine (dyck_pairs a n c l _ hI HN.out hn2).mono ?_
  rintro e w2 ⟨g, rfl, hI2, hb2⟩
  have hB2 := hB.below hb2 hB.lt
  obtain ⟨d0, d1, d2, d3⟩ := hB2.four
  have hP2 := hP.below hb2 hP.lt
  obtain ⟨s0, s1, s2, s3⟩ := hP2.two
  have hacc2 := below_then hacc (by simp; omega) hb2
  have hI3 := hl.below hacc2
  have hi0 : (0 : Int) ≤ (k : Int) := by omega
  clear c0 c1 c2 c3 hI
  go_wp2
  go_loop [6] (fun iv => ∃ i : Nat, iv = .int .i64 (i : Int) ∧ k ≤ i ∧ i ≤ n ∧ ∀ t, k ≤ t → t < i → openS (ix l t) = 0) (fun iv => n - (intOf iv).toNat)
  case atStart => exact ⟨k, rfl, by omega, by omega, fun t h1 h2 => by omega⟩
  case round =>
    obtain ⟨i, rfl, hi1, hi2, hno⟩ := hrel
    have HO := Lib.hid hno; clear hno
    by_cases hlt : i < n
    · obtain ⟨b1, o1, rfl, hc⟩ := hI3.at (k := i) (by rw [HN.out]; exact hlt)
      have e1 := hc i (by rw [HN.out]; exact hlt)
      clear hc hl hI3
      by_cases hz : openS (ix l i) = 0
      · have hz' : (otherS (ix l i) != 0) = false := by
          have := other_open (ix l i)
          rw [bne_eq_false_iff_eq]
          exact Decidable.byContradiction fun h => (this.1 h) hz
        have HZ := Lib.hid hz; clear hz
        go_wp2_with ((go_at_call 190); refine (dyck_kind _ _).mono ?_; rintro e w' ⟨rfl, rfl⟩)
        go_round
        case rel => exact ⟨i + 1, by go_num, by omega, by omega, fun t h1 h2 => by
          rcases Nat.lt_succ_iff_lt_or_eq.1 h2 with h | rfl
          · exact HO.out t h1 h
          · exact HZ.out⟩
        case measure => simp [intOf]; omega
      · have hz' : (otherS (ix l i) != 0) = true := by simpa using (other_open (ix l i)).2 hz
        have HF := Lib.hid (show partF l k = ix (pRun l n n).out i by
          have := partF_hit hi1 (by rw [HN.out]; exact hlt) hz HO.out
          rwa [HN.out] at this)
        obtain ⟨g1, o2, hg, hc2⟩ := hI2.at (k := i) (by rw [pRun_len]; exact hlt)
        simp only [Option.some.injEq, Addr.mk.injEq] at hg
        obtain ⟨rfl, rfl, -⟩ := hg
        have e2 := hc2 i (by rw [pRun_len]; exact hlt)
        rw [Nat.zero_add] at e2
        obtain ⟨y, hy⟩ : ∃ y, ix (pRun l n n).out i = y := ⟨_, rfl⟩
        rw [hy] at e2
        have HF2 := Lib.hid (show partF l k = y by rw [HF.out, hy])
        clear hz hy hc2 HF
        by_cases hneg : y < 0
        · have HR := Lib.hid (show partS l k = none by rw [partS, HF2.out, if_pos hneg])
          go_wp2_with ((go_at_call 190); refine (dyck_kind _ _).mono ?_; rintro e w' ⟨rfl, rfl⟩)
          rw [HR.out]
          have hG := (hP2.set 0 (.int .i64 (0))).set 1 (.bool false)
          obtain ⟨q0, q1, -, -⟩ := Blk.two hG
          refine bodyPost_ret (v := .tuple #[.agg #[.int .i64 (0), .bool false], .int .i64 5]) (by simp [results, Try.results176, go_sem, q0, q1]) rfl ⟨rfl, ?_⟩
          first | exact (hacc2.setCell (p := ⟨w.heap.size + 1, 0, none⟩) (Nat.le_succ _) _).setCell (p := ⟨w.heap.size + 1, 1, none⟩) (Nat.le_succ _) _ | exact below2 _ _ _
        · have HR := Lib.hid (show partS l k = some (y, true) by rw [partS, HF2.out, if_neg hneg])
          go_wp2_with ((go_at_call 190); refine (dyck_kind _ _).mono ?_; rintro e w' ⟨rfl, rfl⟩)
          rw [HR.out]
          have hG := (hP2.set 0 (.int .i64 (y))).set 1 (.bool true)
          obtain ⟨q0, q1, -, -⟩ := Blk.two hG
          refine bodyPost_ret (v := .tuple #[.agg #[.int .i64 (y), .bool true], .int .i64 0]) (by simp [results, Try.results176, go_sem, q0, q1]) rfl ⟨rfl, ?_⟩
          first | exact (hacc2.setCell (p := ⟨w.heap.size + 1, 0, none⟩) (Nat.le_succ _) _).setCell (p := ⟨w.heap.size + 1, 1, none⟩) (Nat.le_succ _) _ | exact below2 _ _ _
    · obtain rfl : i = n := by omega
      have HR := Lib.hid (show partS l k = none by rw [partS, partF_none (by rw [HN.out]; exact HO.out), if_pos (by omega)])
      go_wp2
      rw [HR.out]
      have hG := (hP2.set 0 (.int .i64 (0))).set 1 (.bool false)
      obtain ⟨q0, q1, -, -⟩ := Blk.two hG
      refine bodyPost_ret (v := .tuple #[.agg #[.int .i64 (0), .bool false], .int .i64 5]) (by simp [results, Try.results176, go_sem, q0, q1]) rfl ⟨rfl, ?_⟩
      first | exact (hacc2.setCell (p := ⟨w.heap.size + 1, 0, none⟩) (Nat.le_succ _) _).setCell (p := ⟨w.heap.size + 1, 1, none⟩) (Nat.le_succ _) _ | exact below2 _ _ _

end Go.Proofs.Ytbgbcmfgncneiaa
