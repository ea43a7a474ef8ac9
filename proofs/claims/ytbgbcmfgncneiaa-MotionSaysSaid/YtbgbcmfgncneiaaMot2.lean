/- Contracts of goer's right, first, words, ends. -/
import Derived.Test.YtbgbcmfgncneiaaMot1
namespace Go.Proofs.Ytbgbcmfgncneiaa
open Go.RowKit
set_option linter.unusedVariables false
set_option linter.unusedSimpArgs false

def moA (r : Option (Int × Bool)) : Int := match r with | some x => x.1 | none => 0
def moB (r : Option (Int × Bool)) : Bool := match r with | some x => x.2 | none => false
def moE (r : Option (Int × Bool)) : Int := match r with | some x => 0 | none => 5
/-- what a motion answers -/
def MoPost (r : Option (Int × Bool)) (w : World) (e : Ending) (w' : World) : Prop := e = .returned (.tuple #[.agg #[.int .i64 (moA r), .bool (moB r)], .int .i64 (moE r)]) ∧ Below w.heap.size w w'

/-- l's answer -/
def rightS (n k : Nat) (m : Int) (op : Bool) : Option (Int × Bool) := if (if op then (n : Int) else n - 1) ≤ k then none else some (min (if op then (n : Int) else n - 1) (k + m), false)

set_option maxRecDepth 100000 in
set_option maxHeartbeats 1000000 in
theorem goer_right (a : Option Addr) (n c : Nat) (k : Nat) (m : Int) (op : Bool) (w : World) (hn2 : n ≤ 4096) (hk : k ≤ n) (hm : 1 ≤ m) (hm2 : m ≤ 999) :
    Calls Try.prog 170 #[goV a n c k m op] w (MoPost (rightS n k m op) w) := by
  unfold goV
  have hB := (Blk.new w #[.slice a n c, .int .i64 (k : Int), .int .i64 m, .bool op] 202).alloc (.cells #[.int .i64 0, .bool false] 204)
  obtain ⟨c0, c1, c2, c3⟩ := hB.four
  have hP := Blk.new (w.alloc (.cells #[.slice a n c, .int .i64 (k : Int), .int .i64 m, .bool op] 202)) #[.int .i64 0, .bool false] 204
  rw [World.size_alloc] at hP
  have hacc := below2 w (.cells #[.slice a n c, .int .i64 (k : Int), .int .i64 m, .bool op] 202) (.cells #[.int .i64 0, .bool false] 204)
  cases op
  · by_cases hf : (n : Int) - 1 ≤ k
    · have HR := Lib.hid (show rightS n k m false = none by rw [rightS, if_pos (by simpa using hf)])
      go_enter Try.func170, Try.ntmps170
      go_wp2
      rw [HR.out]
      have hG := (hP.set 0 (.int .i64 (0))).set 1 (.bool false)
      obtain ⟨q0, q1, -, -⟩ := Blk.two hG
      refine bodyPost_ret (v := .tuple #[.agg #[.int .i64 (0), .bool false], .int .i64 5]) (by simp [results, Try.results170, go_sem, q0, q1]) rfl ⟨rfl, ?_⟩
      first | exact (hacc.setCell (p := ⟨w.heap.size + 1, 0, none⟩) (Nat.le_succ _) _).setCell (p := ⟨w.heap.size + 1, 1, none⟩) (Nat.le_succ _) _ | exact below2 _ _ _
    · have HR := Lib.hid (show rightS n k m false = some (min ((n : Int) - 1) (k + m), false) by rw [rightS, if_neg (by simpa using hf)]; rfl)
      rcases (show (n : Int) - 1 ≤ k + m ∨ k + m < (n : Int) - 1 by omega) with h1 | h1
      · have HM := Lib.hid (show min ((n : Int) - 1) (k + m) = (n : Int) - 1 by omega)
        go_enter Try.func170, Try.ntmps170
        go_wp2
        rw [HR.out, HM.out]
        have hG := (hP.set 0 (.int .i64 ((n : Int) - 1))).set 1 (.bool false)
        obtain ⟨q0, q1, -, -⟩ := Blk.two hG
        refine bodyPost_ret (v := .tuple #[.agg #[.int .i64 ((n : Int) - 1), .bool false], .int .i64 0]) (by simp [results, Try.results170, go_sem, q0, q1]) rfl ⟨rfl, ?_⟩
        first | exact (hacc.setCell (p := ⟨w.heap.size + 1, 0, none⟩) (Nat.le_succ _) _).setCell (p := ⟨w.heap.size + 1, 1, none⟩) (Nat.le_succ _) _ | exact below2 _ _ _
      · have HM := Lib.hid (show min ((n : Int) - 1) (k + m) = k + m by omega)
        go_enter Try.func170, Try.ntmps170
        go_wp2
        rw [HR.out, HM.out]
        have hG := (hP.set 0 (.int .i64 ((k : Int) + m))).set 1 (.bool false)
        obtain ⟨q0, q1, -, -⟩ := Blk.two hG
        refine bodyPost_ret (v := .tuple #[.agg #[.int .i64 ((k : Int) + m), .bool false], .int .i64 0]) (by simp [results, Try.results170, go_sem, q0, q1]) rfl ⟨rfl, ?_⟩
        first | exact (hacc.setCell (p := ⟨w.heap.size + 1, 0, none⟩) (Nat.le_succ _) _).setCell (p := ⟨w.heap.size + 1, 1, none⟩) (Nat.le_succ _) _ | exact below2 _ _ _
  · by_cases hf : (n : Int) ≤ k
    · have HR := Lib.hid (show rightS n k m true = none by rw [rightS, if_pos (by simpa using hf)])
      go_enter Try.func170, Try.ntmps170
      go_wp2
      rw [HR.out]
      have hG := (hP.set 0 (.int .i64 (0))).set 1 (.bool false)
      obtain ⟨q0, q1, -, -⟩ := Blk.two hG
      refine bodyPost_ret (v := .tuple #[.agg #[.int .i64 (0), .bool false], .int .i64 5]) (by simp [results, Try.results170, go_sem, q0, q1]) rfl ⟨rfl, ?_⟩
      first | exact (hacc.setCell (p := ⟨w.heap.size + 1, 0, none⟩) (Nat.le_succ _) _).setCell (p := ⟨w.heap.size + 1, 1, none⟩) (Nat.le_succ _) _ | exact below2 _ _ _
    · have HR := Lib.hid (show rightS n k m true = some (min ((n : Int)) (k + m), false) by rw [rightS, if_neg (by simpa using hf)]; rfl)
      rcases (show (n : Int) ≤ k + m ∨ k + m < (n : Int) by omega) with h1 | h1
      · have HM := Lib.hid (show min ((n : Int)) (k + m) = (n : Int) by omega)
        go_enter Try.func170, Try.ntmps170
        go_wp2
        rw [HR.out, HM.out]
        have hG := (hP.set 0 (.int .i64 ((n : Int)))).set 1 (.bool false)
        obtain ⟨q0, q1, -, -⟩ := Blk.two hG
        refine bodyPost_ret (v := .tuple #[.agg #[.int .i64 ((n : Int)), .bool false], .int .i64 0]) (by simp [results, Try.results170, go_sem, q0, q1]) rfl ⟨rfl, ?_⟩
        first | exact (hacc.setCell (p := ⟨w.heap.size + 1, 0, none⟩) (Nat.le_succ _) _).setCell (p := ⟨w.heap.size + 1, 1, none⟩) (Nat.le_succ _) _ | exact below2 _ _ _
      · have HM := Lib.hid (show min ((n : Int)) (k + m) = k + m by omega)
        go_enter Try.func170, Try.ntmps170
        go_wp2
        rw [HR.out, HM.out]
        have hG := (hP.set 0 (.int .i64 ((k : Int) + m))).set 1 (.bool false)
        obtain ⟨q0, q1, -, -⟩ := Blk.two hG
        refine bodyPost_ret (v := .tuple #[.agg #[.int .i64 ((k : Int) + m), .bool false], .int .i64 0]) (by simp [results, Try.results170, go_sem, q0, q1]) rfl ⟨rfl, ?_⟩
        first | exact (hacc.setCell (p := ⟨w.heap.size + 1, 0, none⟩) (Nat.le_succ _) _).setCell (p := ⟨w.heap.size + 1, 1, none⟩) (Nat.le_succ _) _ | exact below2 _ _ _

set_option maxRecDepth 100000 in
set_option maxHeartbeats 1000000 in
theorem goer_first (a : Option Addr) (n c : Nat) (l : List Int) (k : Nat) (m : Int) (op : Bool) (w : World) (hl : Ints w a l) (hn : l.length = n) (hn2 : n ≤ 4096) :
    Calls Try.prog 171 #[goV a n c k m op] w (GotI (firstF l) w) := by
  unfold goV
  have HN := Lib.hid hn
  clear hn
  have hB := Blk.new w #[.slice a n c, .int .i64 (k : Int), .int .i64 m, .bool op] 202
  obtain ⟨c0, c1, c2, c3⟩ := hB.four
  have hacc := below1 w (.cells #[.slice a n c, .int .i64 (k : Int), .int .i64 m, .bool op] 202)
  have hI := hl.below hacc
  go_enter Try.func171, Try.ntmps171
  go_wp2
  go_loop [8] (fun i => ∃ j : Nat, i = .int .i64 (j : Int) ∧ j ≤ n ∧ ∀ t, t < j → kindS (ix l t) true = 0) (fun i => n - (intOf i).toNat)
  case atStart => exact ⟨0, rfl, by omega, fun t h => by omega⟩
  case round =>
    obtain ⟨j, rfl, hj, hno⟩ := hrel
    have HO := Lib.hid hno; clear hno
    by_cases hlt : j < n
    · obtain ⟨b1, o1, rfl, hc⟩ := hI.at (k := j) (by rw [HN.out]; exact hlt)
      have e1 := hc j (by rw [HN.out]; exact hlt)
      have hkr := kindS_range (ix l j) true
      clear hc hl hI
      by_cases hz : kindS (ix l j) true = 0
      · have hz' : (kindS (ix l j) true != 0) = false := by simpa using hz
        have HZ := Lib.hid hz; clear hz
        go_wp2_with ((go_at_call 158); refine (word_kindOf _ _ _).mono ?_; rintro e w' ⟨rfl, rfl⟩)
        go_round
        case rel => exact ⟨j + 1, by go_num, by omega, fun t h => by
          rcases Nat.lt_succ_iff_lt_or_eq.1 h with h | rfl
          · exact HO.out t h
          · exact HZ.out⟩
        case measure => simp [intOf]; omega
      · have hz' : (kindS (ix l j) true != 0) = true := by simpa using hz
        have HF := Lib.hid (show firstF l = (j : Int) by
          unfold firstF
          split
          · rename_i r h
            obtain ⟨h1, h2, h3, h4⟩ := seekUp_some h
            simp at h3
            rcases Nat.lt_trichotomy r j with h | h | h
            · exact absurd (HO.out r h) h3
            · rw [h]
            · have := h4 j (by omega) h; simp at this; exact absurd this hz
          · rename_i h
            have := seekUp_none h j (by omega) (by rw [HN.out]; omega)
            simp at this; exact absurd this hz)
        clear hz
        go_wp2_with ((go_at_call 158); refine (word_kindOf _ _ _).mono ?_; rintro e w' ⟨rfl, rfl⟩)
        go_ret
        exact ⟨by rw [HF.out]; rfl, hacc⟩
    · obtain rfl : j = n := by omega
      have HF := Lib.hid (show firstF l = max 0 ((j : Int) - 1) by
          unfold firstF
          split
          · rename_i r h
            obtain ⟨h1, h2, h3, h4⟩ := seekUp_some h
            simp at h3
            exact absurd (HO.out r (by rw [HN.out] at h2; omega)) h3
          · rw [HN.out])
      clear hI hl
      rcases (show j = 0 ∨ 0 < j by omega) with h0 | h0
      · subst h0
        go_wp2
        go_ret
        exact ⟨by rw [HF.out]; rfl, hacc⟩
      · have HM := Lib.hid (show max 0 ((j : Int) - 1) = (j : Int) - 1 by omega)
        have h1 : 0 ≤ (j : Int) - 1 := by omega
        go_wp2
        all_goals
          go_ret
          exact ⟨ret1_int (by rw [HF.out]; omega), hacc⟩

def wordsS (l : List Int) (k : Nat) (m : Nat) (op big : Bool) : Option (Int × Bool) :=
  if op then some (iterF (nextF l big) m k, false) else if min (iterF (nextF l big) m k) ((l.length : Int) - 1) = k then none else some (min (iterF (nextF l big) m k) ((l.length : Int) - 1), false)
def endsS (l : List Int) (k : Nat) (m : Nat) (op big : Bool) : Option (Int × Bool) :=
  if op = false ∧ iterF (endF l big) m k = k then none else some (iterF (endF l big) m k, true)
theorem wordsS_op {l : List Int} {k m : Nat} {big : Bool} : wordsS l k m true big = some (iterF (nextF l big) m k, false) := if_pos rfl
theorem wordsS_go {l : List Int} {k m : Nat} {big : Bool} {t : Int} (h : min (iterF (nextF l big) m k) ((l.length : Int) - 1) = t) : wordsS l k m false big = if t = k then none else some (t, false) := by subst h; exact if_neg (by simp)

set_option maxRecDepth 100000 in
set_option maxHeartbeats 1000000 in
theorem goer_words (a : Option Addr) (n c : Nat) (l : List Int) (k m : Nat) (op big : Bool) (w : World) (hl : Ints w a l) (hn : l.length = n) (hn2 : n ≤ 4096) (hk : k ≤ n) (h0 : 1 ≤ n) (hm : m ≤ 1000) :
    Calls Try.prog 174 #[goV a n c k (m : Int) op, .bool big] w (MoPost (wordsS l k m op big) w) := by
  unfold goV
  have HB := Lib.hid (iterF_bd (f := nextF l big) (lo := 0) (hi := (n : Int)) (fun x h0 h1 => by rw [← hn]; exact nextF_bd l big x h0 (by omega)) (k := (k : Int)) (by omega) (by omega) m)
  have HN := Lib.hid hn
  clear hn
  have hB := (Blk.new w #[.slice a n c, .int .i64 (k : Int), .int .i64 (m : Int), .bool op] 202).alloc (.cells #[.int .i64 0, .bool false] 204)
  obtain ⟨c0, c1, c2, c3⟩ := hB.four
  have hP := Blk.new (w.alloc (.cells #[.slice a n c, .int .i64 (k : Int), .int .i64 (m : Int), .bool op] 202)) #[.int .i64 0, .bool false] 204
  rw [World.size_alloc] at hP
  have hacc := below2 w (.cells #[.slice a n c, .int .i64 (k : Int), .int .i64 (m : Int), .bool op] 202) (.cells #[.int .i64 0, .bool false] 204)
  have hI := hl.below hacc
  cases op
  · have hb := HB.out
    obtain ⟨t, ht⟩ : ∃ t, iterF (nextF l big) m k = t := ⟨_, rfl⟩
    rw [ht] at hb
    obtain ⟨b1, b2⟩ := hb
    have HT := Lib.hid ht; clear ht
    rcases (show t ≤ (n : Int) - 1 ∨ (n : Int) - 1 < t by omega) with h1 | h1
    · have HW := Lib.hid (wordsS_go (l := l) (k := k) (m := m) (big := big) (t := t) (by rw [HT.out, HN.out]; omega))
      by_cases hk2 : t = (k : Int)
      · have HR := Lib.hid (show wordsS l k m false big = none by rw [HW.out, if_pos hk2])
        have hb' : ((t : Int) == (k : Int)) = true := by simpa using hk2
        clear hk2
        go_enter Try.func174, Try.ntmps174
        go_wp2_with ((go_at_call 172); refine (goer_times_next a n c l k m _ big _ hI HN.out hn2 hk hm).mono ?_; rintro e w2 ⟨rfl, hb2⟩; rw [HT.out]; have hB2 := hB.below hb2 hB.lt; obtain ⟨d0, d1, d2, d3⟩ := hB2.four; have hP2 := hP.below hb2 hP.lt; obtain ⟨s0, s1, s2, s3⟩ := hP2.two; have hacc2 := below_then hacc (by simp; omega) hb2)
        rw [HR.out]
        have hG := (hP2.set 0 (.int .i64 (0))).set 1 (.bool false)
        obtain ⟨q0, q1, -, -⟩ := Blk.two hG
        refine bodyPost_ret (v := .tuple #[.agg #[.int .i64 (0), .bool false], .int .i64 5]) (by simp [results, Try.results174, go_sem, q0, q1]) rfl ⟨rfl, ?_⟩
        first | exact (hacc2.setCell (p := ⟨w.heap.size + 1, 0, none⟩) (Nat.le_succ _) _).setCell (p := ⟨w.heap.size + 1, 1, none⟩) (Nat.le_succ _) _ | exact below2 _ _ _
      · have HR := Lib.hid (show wordsS l k m false big = some (t, false) by rw [HW.out, if_neg hk2])
        have hb' : ((t : Int) == (k : Int)) = false := by simpa using hk2
        clear hk2
        go_enter Try.func174, Try.ntmps174
        go_wp2_with ((go_at_call 172); refine (goer_times_next a n c l k m _ big _ hI HN.out hn2 hk hm).mono ?_; rintro e w2 ⟨rfl, hb2⟩; rw [HT.out]; have hB2 := hB.below hb2 hB.lt; obtain ⟨d0, d1, d2, d3⟩ := hB2.four; have hP2 := hP.below hb2 hP.lt; obtain ⟨s0, s1, s2, s3⟩ := hP2.two; have hacc2 := below_then hacc (by simp; omega) hb2)
        rw [HR.out]
        have hG := (hP2.set 0 (.int .i64 (t))).set 1 (.bool false)
        obtain ⟨q0, q1, -, -⟩ := Blk.two hG
        refine bodyPost_ret (v := .tuple #[.agg #[.int .i64 (t), .bool false], .int .i64 0]) (by simp [results, Try.results174, go_sem, q0, q1]) rfl ⟨rfl, ?_⟩
        first | exact (hacc2.setCell (p := ⟨w.heap.size + 1, 0, none⟩) (Nat.le_succ _) _).setCell (p := ⟨w.heap.size + 1, 1, none⟩) (Nat.le_succ _) _ | exact below2 _ _ _
    · have HW := Lib.hid (wordsS_go (l := l) (k := k) (m := m) (big := big) (t := (n : Int) - 1) (by rw [HT.out, HN.out]; omega))
      by_cases hk2 : (n : Int) - 1 = (k : Int)
      · have HR := Lib.hid (show wordsS l k m false big = none by rw [HW.out, if_pos hk2])
        have hb' : (((n : Int) - 1 : Int) == (k : Int)) = true := by simpa using hk2
        clear hk2
        go_enter Try.func174, Try.ntmps174
        go_wp2_with ((go_at_call 172); refine (goer_times_next a n c l k m _ big _ hI HN.out hn2 hk hm).mono ?_; rintro e w2 ⟨rfl, hb2⟩; rw [HT.out]; have hB2 := hB.below hb2 hB.lt; obtain ⟨d0, d1, d2, d3⟩ := hB2.four; have hP2 := hP.below hb2 hP.lt; obtain ⟨s0, s1, s2, s3⟩ := hP2.two; have hacc2 := below_then hacc (by simp; omega) hb2)
        rw [HR.out]
        have hG := (hP2.set 0 (.int .i64 (0))).set 1 (.bool false)
        obtain ⟨q0, q1, -, -⟩ := Blk.two hG
        refine bodyPost_ret (v := .tuple #[.agg #[.int .i64 (0), .bool false], .int .i64 5]) (by simp [results, Try.results174, go_sem, q0, q1]) rfl ⟨rfl, ?_⟩
        first | exact (hacc2.setCell (p := ⟨w.heap.size + 1, 0, none⟩) (Nat.le_succ _) _).setCell (p := ⟨w.heap.size + 1, 1, none⟩) (Nat.le_succ _) _ | exact below2 _ _ _
      · have HR := Lib.hid (show wordsS l k m false big = some ((n : Int) - 1, false) by rw [HW.out, if_neg hk2])
        have hb' : (((n : Int) - 1 : Int) == (k : Int)) = false := by simpa using hk2
        clear hk2
        go_enter Try.func174, Try.ntmps174
        go_wp2_with ((go_at_call 172); refine (goer_times_next a n c l k m _ big _ hI HN.out hn2 hk hm).mono ?_; rintro e w2 ⟨rfl, hb2⟩; rw [HT.out]; have hB2 := hB.below hb2 hB.lt; obtain ⟨d0, d1, d2, d3⟩ := hB2.four; have hP2 := hP.below hb2 hP.lt; obtain ⟨s0, s1, s2, s3⟩ := hP2.two; have hacc2 := below_then hacc (by simp; omega) hb2)
        rw [HR.out]
        have hG := (hP2.set 0 (.int .i64 ((n : Int) - 1))).set 1 (.bool false)
        obtain ⟨q0, q1, -, -⟩ := Blk.two hG
        refine bodyPost_ret (v := .tuple #[.agg #[.int .i64 ((n : Int) - 1), .bool false], .int .i64 0]) (by simp [results, Try.results174, go_sem, q0, q1]) rfl ⟨rfl, ?_⟩
        first | exact (hacc2.setCell (p := ⟨w.heap.size + 1, 0, none⟩) (Nat.le_succ _) _).setCell (p := ⟨w.heap.size + 1, 1, none⟩) (Nat.le_succ _) _ | exact below2 _ _ _
  · have HR := Lib.hid (wordsS_op (l := l) (k := k) (m := m) (big := big))
    go_enter Try.func174, Try.ntmps174
    go_wp2_with ((go_at_call 172); refine (goer_times_next a n c l k m _ big _ hI HN.out hn2 hk hm).mono ?_; rintro e w2 ⟨rfl, hb2⟩; have hB2 := hB.below hb2 hB.lt; obtain ⟨d0, d1, d2, d3⟩ := hB2.four; have hP2 := hP.below hb2 hP.lt; obtain ⟨s0, s1, s2, s3⟩ := hP2.two; have hacc2 := below_then hacc (by simp; omega) hb2)
    rw [HR.out]
    have hG := (hP2.set 0 (.int .i64 (iterF (nextF l big) m k))).set 1 (.bool false)
    obtain ⟨q0, q1, -, -⟩ := Blk.two hG
    refine bodyPost_ret (v := .tuple #[.agg #[.int .i64 (iterF (nextF l big) m k), .bool false], .int .i64 0]) (by simp [results, Try.results174, go_sem, q0, q1]) rfl ⟨rfl, ?_⟩
    first | exact (hacc2.setCell (p := ⟨w.heap.size + 1, 0, none⟩) (Nat.le_succ _) _).setCell (p := ⟨w.heap.size + 1, 1, none⟩) (Nat.le_succ _) _ | exact below2 _ _ _

set_option maxRecDepth 100000 in
set_option maxHeartbeats 1000000 in
theorem goer_ends (a : Option Addr) (n c : Nat) (l : List Int) (k m : Nat) (op big : Bool) (w : World) (hl : Ints w a l) (hn : l.length = n) (hn2 : n ≤ 4096) (hk : k ≤ n) (h0 : 1 ≤ n) (hm : m ≤ 1000) :
    Calls Try.prog 175 #[goV a n c k (m : Int) op, .bool big] w (MoPost (endsS l k m op big) w) := by
  unfold goV
  have HB := Lib.hid (iterF_bd (f := endF l big) (lo := 0) (hi := (n : Int)) (fun x h0 h1 => by rw [← hn]; exact endF_bd l big x h0 (by omega)) (k := (k : Int)) (by omega) (by omega) m)
  have HN := Lib.hid hn
  clear hn
  have hB := (Blk.new w #[.slice a n c, .int .i64 (k : Int), .int .i64 (m : Int), .bool op] 202).alloc (.cells #[.int .i64 0, .bool false] 204)
  obtain ⟨c0, c1, c2, c3⟩ := hB.four
  have hP := Blk.new (w.alloc (.cells #[.slice a n c, .int .i64 (k : Int), .int .i64 (m : Int), .bool op] 202)) #[.int .i64 0, .bool false] 204
  rw [World.size_alloc] at hP
  have hacc := below2 w (.cells #[.slice a n c, .int .i64 (k : Int), .int .i64 (m : Int), .bool op] 202) (.cells #[.int .i64 0, .bool false] 204)
  have hI := hl.below hacc
  obtain ⟨t, ht⟩ : ∃ t, iterF (endF l big) m k = t := ⟨_, rfl⟩
  have HT := Lib.hid ht; clear ht
  cases op
  · by_cases hk2 : t = (k : Int)
    · have HR := Lib.hid (show endsS l k m false big = none by rw [endsS, HT.out, if_pos ⟨rfl, hk2⟩])
      have hb' : (t == (k : Int)) = true := by simpa using hk2
      clear hk2
      go_enter Try.func175, Try.ntmps175
      go_wp2_with ((go_at_call 172); refine (goer_times_end a n c l k m _ big _ hI HN.out hn2 hk hm).mono ?_; rintro e w2 ⟨rfl, hb2⟩; rw [HT.out]; have hB2 := hB.below hb2 hB.lt; obtain ⟨d0, d1, d2, d3⟩ := hB2.four; have hP2 := hP.below hb2 hP.lt; obtain ⟨s0, s1, s2, s3⟩ := hP2.two; have hacc2 := below_then hacc (by simp; omega) hb2)
      rw [HR.out]
      have hG := (hP2.set 0 (.int .i64 (0))).set 1 (.bool false)
      obtain ⟨q0, q1, -, -⟩ := Blk.two hG
      refine bodyPost_ret (v := .tuple #[.agg #[.int .i64 (0), .bool false], .int .i64 5]) (by simp [results, Try.results175, go_sem, q0, q1]) rfl ⟨rfl, ?_⟩
      first | exact (hacc2.setCell (p := ⟨w.heap.size + 1, 0, none⟩) (Nat.le_succ _) _).setCell (p := ⟨w.heap.size + 1, 1, none⟩) (Nat.le_succ _) _ | exact below2 _ _ _
    · have HR := Lib.hid (show endsS l k m false big = some (t, true) by rw [endsS, HT.out, if_neg (fun h => hk2 h.2)])
      have hb' : (t == (k : Int)) = false := by simpa using hk2
      clear hk2
      go_enter Try.func175, Try.ntmps175
      go_wp2_with ((go_at_call 172); refine (goer_times_end a n c l k m _ big _ hI HN.out hn2 hk hm).mono ?_; rintro e w2 ⟨rfl, hb2⟩; rw [HT.out]; have hB2 := hB.below hb2 hB.lt; obtain ⟨d0, d1, d2, d3⟩ := hB2.four; have hP2 := hP.below hb2 hP.lt; obtain ⟨s0, s1, s2, s3⟩ := hP2.two; have hacc2 := below_then hacc (by simp; omega) hb2)
      rw [HR.out]
      have hG := (hP2.set 0 (.int .i64 (t))).set 1 (.bool true)
      obtain ⟨q0, q1, -, -⟩ := Blk.two hG
      refine bodyPost_ret (v := .tuple #[.agg #[.int .i64 (t), .bool true], .int .i64 0]) (by simp [results, Try.results175, go_sem, q0, q1]) rfl ⟨rfl, ?_⟩
      first | exact (hacc2.setCell (p := ⟨w.heap.size + 1, 0, none⟩) (Nat.le_succ _) _).setCell (p := ⟨w.heap.size + 1, 1, none⟩) (Nat.le_succ _) _ | exact below2 _ _ _
  · have HR := Lib.hid (show endsS l k m true big = some (t, true) by rw [endsS, HT.out, if_neg (fun h => by cases h.1)])
    go_enter Try.func175, Try.ntmps175
    go_wp2_with ((go_at_call 172); refine (goer_times_end a n c l k m _ big _ hI HN.out hn2 hk hm).mono ?_; rintro e w2 ⟨rfl, hb2⟩; rw [HT.out]; have hB2 := hB.below hb2 hB.lt; obtain ⟨d0, d1, d2, d3⟩ := hB2.four; have hP2 := hP.below hb2 hP.lt; obtain ⟨s0, s1, s2, s3⟩ := hP2.two; have hacc2 := below_then hacc (by simp; omega) hb2)
    rw [HR.out]
    have hG := (hP2.set 0 (.int .i64 (t))).set 1 (.bool true)
    obtain ⟨q0, q1, -, -⟩ := Blk.two hG
    refine bodyPost_ret (v := .tuple #[.agg #[.int .i64 (t), .bool true], .int .i64 0]) (by simp [results, Try.results175, go_sem, q0, q1]) rfl ⟨rfl, ?_⟩
    first | exact (hacc2.setCell (p := ⟨w.heap.size + 1, 0, none⟩) (Nat.le_succ _) _).setCell (p := ⟨w.heap.size + 1, 1, none⟩) (Nat.le_succ _) _ | exact below2 _ _ _

end Go.Proofs.Ytbgbcmfgncneiaa
