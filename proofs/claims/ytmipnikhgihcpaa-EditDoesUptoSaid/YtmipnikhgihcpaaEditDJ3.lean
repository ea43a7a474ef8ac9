/- LiftEditDoes, part 3: joined from the texts Mot2 DyckM DyckW Mot3 Mot4. No condition of its own. -/
import Derived.Test.YtmipnikhgihcpaaEditDJ1
import Derived.Test.YtmipnikhgihcpaaEditDJ2
import Derived.Maps.OwnOps
import Derived.Maps.AppendAt
set_option linter.unusedVariables false
set_option linter.unusedSimpArgs false
namespace Go.Proofs.Ytmipnikhgihcpaa
open Go.RowKit
def moA (r : Option (Int × Bool)) : Int := match r with | some x => x.1 | none => 0
def moTh (r : Option (Int × Bool)) : Bool := match r with | some x => x.2 | none => false
def moE (r : Option (Int × Bool)) : Int := match r with | some x => 0 | none => 5
def MoPost (r : Option (Int × Bool)) (w : World) (e : Ending) (w' : World) : Prop := e = .returned (.tuple #[.agg #[.int .i64 (moA r), .bool (moTh r)], .int .i64 (moE r)]) ∧ Below w.heap.size w w'
def rightS (n k : Nat) (m : Int) (op : Bool) : Option (Int × Bool) := if (if op then (n : Int) else n - 1) ≤ k then none else some (min (if op then (n : Int) else n - 1) (k + m), false)
set_option maxRecDepth 100000 in
set_option maxHeartbeats 1000000 in
theorem goer_right (a : Option Addr) (n c : Nat) (k : Nat) (m : Int) (op : Bool) (w : World) (hn2 : n ≤ 4096) (hk : k ≤ n) (hm : 1 ≤ m) (hm2 : m ≤ 999) :
  Calls Try.prog 268 #[goV a n c k m op] w (MoPost (rightS n k m op) w) := by
 unfold goV
 have hB := (Blk.new w #[.slice a n c, .int .i64 (k : Int), .int .i64 m, .bool op] 323).alloc (.cells #[.int .i64 0, .bool false] 325)
 obtain ⟨c0, c1, c2, c3⟩ := hB.four
 have hP := Blk.new (w.alloc (.cells #[.slice a n c, .int .i64 (k : Int), .int .i64 m, .bool op] 323)) #[.int .i64 0, .bool false] 325
 rw [World.size_alloc] at hP
 have hacc := below2 w (.cells #[.slice a n c, .int .i64 (k : Int), .int .i64 m, .bool op] 323) (.cells #[.int .i64 0, .bool false] 325)
 cases op
 ·by_cases hf : (n : Int) - 1 ≤ k
  ·have HR := Lib.hid (show rightS n k m false = none by rw [rightS, if_pos (by simpa using hf)])
   go_enter Try.func268, Try.ntmps268
   go_wp2
   rw [HR.out]
   have hG := (hP.set 0 (.int .i64 (0))).set 1 (.bool false)
   obtain ⟨q0, q1, -, -⟩ := Blk.two hG
   refine bodyPost_ret (v := .tuple #[.agg #[.int .i64 (0), .bool false], .int .i64 5]) (by simp [results, Try.results268, go_sem, q0, q1]) rfl ⟨rfl, ?_⟩
   first | exact (hacc.setCell (p := ⟨w.heap.size + 1, 0, none⟩) (Nat.le_succ _) _).setCell (p := ⟨w.heap.size + 1, 1, none⟩) (Nat.le_succ _) _ | exact below2 _ _ _
  ·have HR := Lib.hid (show rightS n k m false = some (min ((n : Int) - 1) (k + m), false) by rw [rightS, if_neg (by simpa using hf)]; rfl)
   rcases (show (n : Int) - 1 ≤ k + m ∨ k + m < (n : Int) - 1 by omega) with h1 | h1
   ·have HM := Lib.hid (show min ((n : Int) - 1) (k + m) = (n : Int) - 1 by omega)
    go_enter Try.func268, Try.ntmps268
    go_wp2
    rw [HR.out, HM.out]
    have hG := (hP.set 0 (.int .i64 ((n : Int) - 1))).set 1 (.bool false)
    obtain ⟨q0, q1, -, -⟩ := Blk.two hG
    refine bodyPost_ret (v := .tuple #[.agg #[.int .i64 ((n : Int) - 1), .bool false], .int .i64 0]) (by simp [results, Try.results268, go_sem, q0, q1]) rfl ⟨rfl, ?_⟩
    first | exact (hacc.setCell (p := ⟨w.heap.size + 1, 0, none⟩) (Nat.le_succ _) _).setCell (p := ⟨w.heap.size + 1, 1, none⟩) (Nat.le_succ _) _ | exact below2 _ _ _
   ·have HM := Lib.hid (show min ((n : Int) - 1) (k + m) = k + m by omega)
    go_enter Try.func268, Try.ntmps268
    go_wp2
    rw [HR.out, HM.out]
    have hG := (hP.set 0 (.int .i64 ((k : Int) + m))).set 1 (.bool false)
    obtain ⟨q0, q1, -, -⟩ := Blk.two hG
    refine bodyPost_ret (v := .tuple #[.agg #[.int .i64 ((k : Int) + m), .bool false], .int .i64 0]) (by simp [results, Try.results268, go_sem, q0, q1]) rfl ⟨rfl, ?_⟩
    first | exact (hacc.setCell (p := ⟨w.heap.size + 1, 0, none⟩) (Nat.le_succ _) _).setCell (p := ⟨w.heap.size + 1, 1, none⟩) (Nat.le_succ _) _ | exact below2 _ _ _
 ·by_cases hf : (n : Int) ≤ k
  ·have HR := Lib.hid (show rightS n k m true = none by rw [rightS, if_pos (by simpa using hf)])
   go_enter Try.func268, Try.ntmps268
   go_wp2
   rw [HR.out]
   have hG := (hP.set 0 (.int .i64 (0))).set 1 (.bool false)
   obtain ⟨q0, q1, -, -⟩ := Blk.two hG
   refine bodyPost_ret (v := .tuple #[.agg #[.int .i64 (0), .bool false], .int .i64 5]) (by simp [results, Try.results268, go_sem, q0, q1]) rfl ⟨rfl, ?_⟩
   first | exact (hacc.setCell (p := ⟨w.heap.size + 1, 0, none⟩) (Nat.le_succ _) _).setCell (p := ⟨w.heap.size + 1, 1, none⟩) (Nat.le_succ _) _ | exact below2 _ _ _
  ·have HR := Lib.hid (show rightS n k m true = some (min ((n : Int)) (k + m), false) by rw [rightS, if_neg (by simpa using hf)]; rfl)
   rcases (show (n : Int) ≤ k + m ∨ k + m < (n : Int) by omega) with h1 | h1
   ·have HM := Lib.hid (show min ((n : Int)) (k + m) = (n : Int) by omega)
    go_enter Try.func268, Try.ntmps268
    go_wp2
    rw [HR.out, HM.out]
    have hG := (hP.set 0 (.int .i64 ((n : Int)))).set 1 (.bool false)
    obtain ⟨q0, q1, -, -⟩ := Blk.two hG
    refine bodyPost_ret (v := .tuple #[.agg #[.int .i64 ((n : Int)), .bool false], .int .i64 0]) (by simp [results, Try.results268, go_sem, q0, q1]) rfl ⟨rfl, ?_⟩
    first | exact (hacc.setCell (p := ⟨w.heap.size + 1, 0, none⟩) (Nat.le_succ _) _).setCell (p := ⟨w.heap.size + 1, 1, none⟩) (Nat.le_succ _) _ | exact below2 _ _ _
   ·have HM := Lib.hid (show min ((n : Int)) (k + m) = k + m by omega)
    go_enter Try.func268, Try.ntmps268
    go_wp2
    rw [HR.out, HM.out]
    have hG := (hP.set 0 (.int .i64 ((k : Int) + m))).set 1 (.bool false)
    obtain ⟨q0, q1, -, -⟩ := Blk.two hG
    refine bodyPost_ret (v := .tuple #[.agg #[.int .i64 ((k : Int) + m), .bool false], .int .i64 0]) (by simp [results, Try.results268, go_sem, q0, q1]) rfl ⟨rfl, ?_⟩
    first | exact (hacc.setCell (p := ⟨w.heap.size + 1, 0, none⟩) (Nat.le_succ _) _).setCell (p := ⟨w.heap.size + 1, 1, none⟩) (Nat.le_succ _) _ | exact below2 _ _ _
set_option maxRecDepth 100000 in
set_option maxHeartbeats 1000000 in
theorem goer_first (a : Option Addr) (n c : Nat) (l : List Int) (k : Nat) (m : Int) (op : Bool) (w : World) (hl : Ints w a l) (hn : l.length = n) (hn2 : n ≤ 4096) :
  Calls Try.prog 269 #[goV a n c k m op] w (GotI (firstF l) w) := by
 unfold goV
 have HN := Lib.hid hn
 clear hn
 have hB := Blk.new w #[.slice a n c, .int .i64 (k : Int), .int .i64 m, .bool op] 323
 obtain ⟨c0, c1, c2, c3⟩ := hB.four
 have hacc := below1 w (.cells #[.slice a n c, .int .i64 (k : Int), .int .i64 m, .bool op] 323)
 have hI := hl.below hacc
 go_enter Try.func269, Try.ntmps269
 go_wp2
 go_loop [8] (fun i => ∃ j : Nat, i = .int .i64 (j : Int) ∧ j ≤ n ∧ ∀ t, t < j → kindS (ix l t) true = 0) (fun i => n - (intOf i).toNat)
 case atStart => exact ⟨0, rfl, by omega, fun t h => by omega⟩
 case round =>
  obtain ⟨j, rfl, hj, hno⟩ := hrel
  have HO := Lib.hid hno; clear hno
  by_cases hlt : j < n
  ·obtain ⟨b1, o1, rfl, hc⟩ := hI.at (k := j) (by rw [HN.out]; exact hlt)
   have e1 := hc j (by rw [HN.out]; exact hlt)
   have hkr := kindS_range (ix l j) true
   clear hc hl hI
   by_cases hz : kindS (ix l j) true = 0
   ·have hz' : (kindS (ix l j) true != 0) = false := by simpa using hz
    have HZ := Lib.hid hz; clear hz
    go_wp2_with ((go_at_call 124); refine (word_kindOf _ _ _).mono ?_; rintro e w' ⟨rfl, rfl⟩)
    go_round
    case rel => exact ⟨j + 1, by go_num, by omega, fun t h => by
     rcases Nat.lt_succ_iff_lt_or_eq.1 h with h | rfl
     ·exact HO.out t h
     ·exact HZ.out⟩
    case measure => simp [intOf]; omega
   ·have hz' : (kindS (ix l j) true != 0) = true := by simpa using hz
    have HF := Lib.hid (show firstF l = (j : Int) by
     unfold firstF
     split
     ·rename_i r h
      obtain ⟨h1, h2, h3, h4⟩ := seekUp_some h
      simp at h3
      rcases Nat.lt_trichotomy r j with h | h | h
      ·exact absurd (HO.out r h) h3
      ·rw [h]
      ·have := h4 j (by omega) h; simp at this; exact absurd this hz
     ·rename_i h
      have := seekUp_none h j (by omega) (by rw [HN.out]; omega)
      simp at this; exact absurd this hz)
    clear hz
    go_wp2_with ((go_at_call 124); refine (word_kindOf _ _ _).mono ?_; rintro e w' ⟨rfl, rfl⟩)
    go_ret
    exact ⟨by rw [HF.out]; rfl, hacc⟩
  ·obtain rfl : j = n := by omega
   have HF := Lib.hid (show firstF l = max 0 ((j : Int) - 1) by
     unfold firstF
     split
     ·rename_i r h
      obtain ⟨h1, h2, h3, h4⟩ := seekUp_some h
      simp at h3
      exact absurd (HO.out r (by rw [HN.out] at h2; omega)) h3
     ·rw [HN.out])
   clear hI hl
   rcases (show j = 0 ∨ 0 < j by omega) with h0 | h0
   ·subst h0
    go_wp2
    go_ret
    exact ⟨by rw [HF.out]; rfl, hacc⟩
   ·have HM := Lib.hid (show max 0 ((j : Int) - 1) = (j : Int) - 1 by omega)
    have h1 : 0 ≤ (j : Int) - 1 := by omega
    go_wp2
    all_goals
     go_ret
     exact ⟨ret1_int (by rw [HF.out]; omega), hacc⟩
def wordsS (l : List Int) (k : Nat) (m : Nat) (op big : Bool) : Option (Int × Bool) :=
 if op then some (iterF (nextF l big) m k, false) else if min (iterF (nextF l big) m k) ((l.length : Int) - 1) = k then none else some (min (iterF (nextF l big) m k) ((l.length : Int) - 1), false)
def endsS (l : List Int) (k : Nat) (m : Nat) (op big : Bool) : Option (Int × Bool) :=
 if op = false ∧ iterF (endF l big) m k = k then none else some (iterF (endF l big) m k, true)
theorem wordsS_op {l : List Int} {k m : Nat} {big : Bool} : wordsS l k m true big = some (iterF (nextF l big) m k, false) := if_pos rfl
theorem wordsS_go {l : List Int} {k m : Nat} {big : Bool} {t : Int} (h : min (iterF (nextF l big) m k) ((l.length : Int) - 1) = t) : wordsS l k m false big = if t = k then none else some (t, false) := by subst h; exact if_neg (by simp)
set_option maxRecDepth 100000 in
set_option maxHeartbeats 1000000 in
theorem goer_words (a : Option Addr) (n c : Nat) (l : List Int) (k m : Nat) (op big : Bool) (w : World) (hl : Ints w a l) (hn : l.length = n) (hn2 : n ≤ 4096) (hk : k ≤ n) (h0 : 1 ≤ n) (hm : m ≤ 1000) :
  Calls Try.prog 272 #[goV a n c k (m : Int) op, .bool big] w (MoPost (wordsS l k m op big) w) := by
 unfold goV
 have HB := Lib.hid (iterF_bd (f := nextF l big) (lo := 0) (hi := (n : Int)) (fun x h0 h1 => by rw [← hn]; exact nextF_bd l big x h0 (by omega)) (k := (k : Int)) (by omega) (by omega) m)
 have HN := Lib.hid hn
 clear hn
 have hB := (Blk.new w #[.slice a n c, .int .i64 (k : Int), .int .i64 (m : Int), .bool op] 323).alloc (.cells #[.int .i64 0, .bool false] 325)
 obtain ⟨c0, c1, c2, c3⟩ := hB.four
 have hP := Blk.new (w.alloc (.cells #[.slice a n c, .int .i64 (k : Int), .int .i64 (m : Int), .bool op] 323)) #[.int .i64 0, .bool false] 325
 rw [World.size_alloc] at hP
 have hacc := below2 w (.cells #[.slice a n c, .int .i64 (k : Int), .int .i64 (m : Int), .bool op] 323) (.cells #[.int .i64 0, .bool false] 325)
 have hI := hl.below hacc
 cases op
 ·have hb := HB.out
  obtain ⟨t, ht⟩ : ∃ t, iterF (nextF l big) m k = t := ⟨_, rfl⟩
  rw [ht] at hb
  obtain ⟨b1, b2⟩ := hb
  have HT := Lib.hid ht; clear ht
  rcases (show t ≤ (n : Int) - 1 ∨ (n : Int) - 1 < t by omega) with h1 | h1
  ·have HW := Lib.hid (wordsS_go (l := l) (k := k) (m := m) (big := big) (t := t) (by rw [HT.out, HN.out]; omega))
   by_cases hk2 : t = (k : Int)
   ·have HR := Lib.hid (show wordsS l k m false big = none by rw [HW.out, if_pos hk2])
    have hb' : ((t : Int) == (k : Int)) = true := by simpa using hk2
    clear hk2
    go_enter Try.func272, Try.ntmps272
    go_wp2_with ((go_at_call 270); refine (goer_times_next a n c l k m _ big _ hI HN.out hn2 hk hm).mono ?_; rintro e w2 ⟨rfl, hb2⟩; rw [HT.out]; have hB2 := hB.below hb2 hB.lt; obtain ⟨d0, d1, d2, d3⟩ := hB2.four; have hP2 := hP.below hb2 hP.lt; obtain ⟨s0, s1, s2, s3⟩ := hP2.two; have hacc2 := below_then hacc (by simp; omega) hb2)
    rw [HR.out]
    have hG := (hP2.set 0 (.int .i64 (0))).set 1 (.bool false)
    obtain ⟨q0, q1, -, -⟩ := Blk.two hG
    refine bodyPost_ret (v := .tuple #[.agg #[.int .i64 (0), .bool false], .int .i64 5]) (by simp [results, Try.results272, go_sem, q0, q1]) rfl ⟨rfl, ?_⟩
    first | exact (hacc2.setCell (p := ⟨w.heap.size + 1, 0, none⟩) (Nat.le_succ _) _).setCell (p := ⟨w.heap.size + 1, 1, none⟩) (Nat.le_succ _) _ | exact below2 _ _ _
   ·have HR := Lib.hid (show wordsS l k m false big = some (t, false) by rw [HW.out, if_neg hk2])
    have hb' : ((t : Int) == (k : Int)) = false := by simpa using hk2
    clear hk2
    go_enter Try.func272, Try.ntmps272
    go_wp2_with ((go_at_call 270); refine (goer_times_next a n c l k m _ big _ hI HN.out hn2 hk hm).mono ?_; rintro e w2 ⟨rfl, hb2⟩; rw [HT.out]; have hB2 := hB.below hb2 hB.lt; obtain ⟨d0, d1, d2, d3⟩ := hB2.four; have hP2 := hP.below hb2 hP.lt; obtain ⟨s0, s1, s2, s3⟩ := hP2.two; have hacc2 := below_then hacc (by simp; omega) hb2)
    rw [HR.out]
    have hG := (hP2.set 0 (.int .i64 (t))).set 1 (.bool false)
    obtain ⟨q0, q1, -, -⟩ := Blk.two hG
    refine bodyPost_ret (v := .tuple #[.agg #[.int .i64 (t), .bool false], .int .i64 0]) (by simp [results, Try.results272, go_sem, q0, q1]) rfl ⟨rfl, ?_⟩
    first | exact (hacc2.setCell (p := ⟨w.heap.size + 1, 0, none⟩) (Nat.le_succ _) _).setCell (p := ⟨w.heap.size + 1, 1, none⟩) (Nat.le_succ _) _ | exact below2 _ _ _
  ·have HW := Lib.hid (wordsS_go (l := l) (k := k) (m := m) (big := big) (t := (n : Int) - 1) (by rw [HT.out, HN.out]; omega))
   by_cases hk2 : (n : Int) - 1 = (k : Int)
   ·have HR := Lib.hid (show wordsS l k m false big = none by rw [HW.out, if_pos hk2])
    have hb' : (((n : Int) - 1 : Int) == (k : Int)) = true := by simpa using hk2
    clear hk2
    go_enter Try.func272, Try.ntmps272
    go_wp2_with ((go_at_call 270); refine (goer_times_next a n c l k m _ big _ hI HN.out hn2 hk hm).mono ?_; rintro e w2 ⟨rfl, hb2⟩; rw [HT.out]; have hB2 := hB.below hb2 hB.lt; obtain ⟨d0, d1, d2, d3⟩ := hB2.four; have hP2 := hP.below hb2 hP.lt; obtain ⟨s0, s1, s2, s3⟩ := hP2.two; have hacc2 := below_then hacc (by simp; omega) hb2)
    rw [HR.out]
    have hG := (hP2.set 0 (.int .i64 (0))).set 1 (.bool false)
    obtain ⟨q0, q1, -, -⟩ := Blk.two hG
    refine bodyPost_ret (v := .tuple #[.agg #[.int .i64 (0), .bool false], .int .i64 5]) (by simp [results, Try.results272, go_sem, q0, q1]) rfl ⟨rfl, ?_⟩
    first | exact (hacc2.setCell (p := ⟨w.heap.size + 1, 0, none⟩) (Nat.le_succ _) _).setCell (p := ⟨w.heap.size + 1, 1, none⟩) (Nat.le_succ _) _ | exact below2 _ _ _
   ·have HR := Lib.hid (show wordsS l k m false big = some ((n : Int) - 1, false) by rw [HW.out, if_neg hk2])
    have hb' : (((n : Int) - 1 : Int) == (k : Int)) = false := by simpa using hk2
    clear hk2
    go_enter Try.func272, Try.ntmps272
    go_wp2_with ((go_at_call 270); refine (goer_times_next a n c l k m _ big _ hI HN.out hn2 hk hm).mono ?_; rintro e w2 ⟨rfl, hb2⟩; rw [HT.out]; have hB2 := hB.below hb2 hB.lt; obtain ⟨d0, d1, d2, d3⟩ := hB2.four; have hP2 := hP.below hb2 hP.lt; obtain ⟨s0, s1, s2, s3⟩ := hP2.two; have hacc2 := below_then hacc (by simp; omega) hb2)
    rw [HR.out]
    have hG := (hP2.set 0 (.int .i64 ((n : Int) - 1))).set 1 (.bool false)
    obtain ⟨q0, q1, -, -⟩ := Blk.two hG
    refine bodyPost_ret (v := .tuple #[.agg #[.int .i64 ((n : Int) - 1), .bool false], .int .i64 0]) (by simp [results, Try.results272, go_sem, q0, q1]) rfl ⟨rfl, ?_⟩
    first | exact (hacc2.setCell (p := ⟨w.heap.size + 1, 0, none⟩) (Nat.le_succ _) _).setCell (p := ⟨w.heap.size + 1, 1, none⟩) (Nat.le_succ _) _ | exact below2 _ _ _
 ·have HR := Lib.hid (wordsS_op (l := l) (k := k) (m := m) (big := big))
  go_enter Try.func272, Try.ntmps272
  go_wp2_with ((go_at_call 270); refine (goer_times_next a n c l k m _ big _ hI HN.out hn2 hk hm).mono ?_; rintro e w2 ⟨rfl, hb2⟩; have hB2 := hB.below hb2 hB.lt; obtain ⟨d0, d1, d2, d3⟩ := hB2.four; have hP2 := hP.below hb2 hP.lt; obtain ⟨s0, s1, s2, s3⟩ := hP2.two; have hacc2 := below_then hacc (by simp; omega) hb2)
  rw [HR.out]
  have hG := (hP2.set 0 (.int .i64 (iterF (nextF l big) m k))).set 1 (.bool false)
  obtain ⟨q0, q1, -, -⟩ := Blk.two hG
  refine bodyPost_ret (v := .tuple #[.agg #[.int .i64 (iterF (nextF l big) m k), .bool false], .int .i64 0]) (by simp [results, Try.results272, go_sem, q0, q1]) rfl ⟨rfl, ?_⟩
  first | exact (hacc2.setCell (p := ⟨w.heap.size + 1, 0, none⟩) (Nat.le_succ _) _).setCell (p := ⟨w.heap.size + 1, 1, none⟩) (Nat.le_succ _) _ | exact below2 _ _ _
set_option maxRecDepth 100000 in
set_option maxHeartbeats 1000000 in
theorem goer_ends (a : Option Addr) (n c : Nat) (l : List Int) (k m : Nat) (op big : Bool) (w : World) (hl : Ints w a l) (hn : l.length = n) (hn2 : n ≤ 4096) (hk : k ≤ n) (h0 : 1 ≤ n) (hm : m ≤ 1000) :
  Calls Try.prog 273 #[goV a n c k (m : Int) op, .bool big] w (MoPost (endsS l k m op big) w) := by
 unfold goV
 have HB := Lib.hid (iterF_bd (f := endF l big) (lo := 0) (hi := (n : Int)) (fun x h0 h1 => by rw [← hn]; exact endF_bd l big x h0 (by omega)) (k := (k : Int)) (by omega) (by omega) m)
 have HN := Lib.hid hn
 clear hn
 have hB := (Blk.new w #[.slice a n c, .int .i64 (k : Int), .int .i64 (m : Int), .bool op] 323).alloc (.cells #[.int .i64 0, .bool false] 325)
 obtain ⟨c0, c1, c2, c3⟩ := hB.four
 have hP := Blk.new (w.alloc (.cells #[.slice a n c, .int .i64 (k : Int), .int .i64 (m : Int), .bool op] 323)) #[.int .i64 0, .bool false] 325
 rw [World.size_alloc] at hP
 have hacc := below2 w (.cells #[.slice a n c, .int .i64 (k : Int), .int .i64 (m : Int), .bool op] 323) (.cells #[.int .i64 0, .bool false] 325)
 have hI := hl.below hacc
 obtain ⟨t, ht⟩ : ∃ t, iterF (endF l big) m k = t := ⟨_, rfl⟩
 have HT := Lib.hid ht; clear ht
 cases op
 ·by_cases hk2 : t = (k : Int)
  ·have HR := Lib.hid (show endsS l k m false big = none by rw [endsS, HT.out, if_pos ⟨rfl, hk2⟩])
   have hb' : (t == (k : Int)) = true := by simpa using hk2
   clear hk2
   go_enter Try.func273, Try.ntmps273
   go_wp2_with ((go_at_call 270); refine (goer_times_end a n c l k m _ big _ hI HN.out hn2 hk hm).mono ?_; rintro e w2 ⟨rfl, hb2⟩; rw [HT.out]; have hB2 := hB.below hb2 hB.lt; obtain ⟨d0, d1, d2, d3⟩ := hB2.four; have hP2 := hP.below hb2 hP.lt; obtain ⟨s0, s1, s2, s3⟩ := hP2.two; have hacc2 := below_then hacc (by simp; omega) hb2)
   rw [HR.out]
   have hG := (hP2.set 0 (.int .i64 (0))).set 1 (.bool false)
   obtain ⟨q0, q1, -, -⟩ := Blk.two hG
   refine bodyPost_ret (v := .tuple #[.agg #[.int .i64 (0), .bool false], .int .i64 5]) (by simp [results, Try.results273, go_sem, q0, q1]) rfl ⟨rfl, ?_⟩
   first | exact (hacc2.setCell (p := ⟨w.heap.size + 1, 0, none⟩) (Nat.le_succ _) _).setCell (p := ⟨w.heap.size + 1, 1, none⟩) (Nat.le_succ _) _ | exact below2 _ _ _
  ·have HR := Lib.hid (show endsS l k m false big = some (t, true) by rw [endsS, HT.out, if_neg (fun h => hk2 h.2)])
   have hb' : (t == (k : Int)) = false := by simpa using hk2
   clear hk2
   go_enter Try.func273, Try.ntmps273
   go_wp2_with ((go_at_call 270); refine (goer_times_end a n c l k m _ big _ hI HN.out hn2 hk hm).mono ?_; rintro e w2 ⟨rfl, hb2⟩; rw [HT.out]; have hB2 := hB.below hb2 hB.lt; obtain ⟨d0, d1, d2, d3⟩ := hB2.four; have hP2 := hP.below hb2 hP.lt; obtain ⟨s0, s1, s2, s3⟩ := hP2.two; have hacc2 := below_then hacc (by simp; omega) hb2)
   rw [HR.out]
   have hG := (hP2.set 0 (.int .i64 (t))).set 1 (.bool true)
   obtain ⟨q0, q1, -, -⟩ := Blk.two hG
   refine bodyPost_ret (v := .tuple #[.agg #[.int .i64 (t), .bool true], .int .i64 0]) (by simp [results, Try.results273, go_sem, q0, q1]) rfl ⟨rfl, ?_⟩
   first | exact (hacc2.setCell (p := ⟨w.heap.size + 1, 0, none⟩) (Nat.le_succ _) _).setCell (p := ⟨w.heap.size + 1, 1, none⟩) (Nat.le_succ _) _ | exact below2 _ _ _
 ·have HR := Lib.hid (show endsS l k m true big = some (t, true) by rw [endsS, HT.out, if_neg (fun h => by cases h.1)])
  go_enter Try.func273, Try.ntmps273
  go_wp2_with ((go_at_call 270); refine (goer_times_end a n c l k m _ big _ hI HN.out hn2 hk hm).mono ?_; rintro e w2 ⟨rfl, hb2⟩; rw [HT.out]; have hB2 := hB.below hb2 hB.lt; obtain ⟨d0, d1, d2, d3⟩ := hB2.four; have hP2 := hP.below hb2 hP.lt; obtain ⟨s0, s1, s2, s3⟩ := hP2.two; have hacc2 := below_then hacc (by simp; omega) hb2)
  rw [HR.out]
  have hG := (hP2.set 0 (.int .i64 (t))).set 1 (.bool true)
  obtain ⟨q0, q1, -, -⟩ := Blk.two hG
  refine bodyPost_ret (v := .tuple #[.agg #[.int .i64 (t), .bool true], .int .i64 0]) (by simp [results, Try.results273, go_sem, q0, q1]) rfl ⟨rfl, ?_⟩
  first | exact (hacc2.setCell (p := ⟨w.heap.size + 1, 0, none⟩) (Nat.le_succ _) _).setCell (p := ⟨w.heap.size + 1, 1, none⟩) (Nat.le_succ _) _ | exact below2 _ _ _
end Go.Proofs.Ytmipnikhgihcpaa
namespace Go.Proofs.Ytmipnikhgihcpaa
open Go.RowKit Go.Maps
theorem look_mapv {ops : Array Oper} {rest : List Oper} {o : Oper} {a : Act} {Q : Exit → Act → World → Prop} {w : World} (hg : o.guard = none) (m x : Operand)
  (hop : o.op = Op.lookup 350 m x false) {b n : Nat} {f : Int → Value} (hmap : MapV w b n f) {k : Int} (hk : InR k) {v : Value} (hv : f k = v) (hm : a.eval m = .map (some b)) (hx : a.eval x = .int .i64 k)
  (hK : wpList Try.prog ops Q rest (a.put o.dst v) w) : wpList Try.prog ops Q (o :: rest) a w := by
 subst hv
 refine wpList_plain hg fun K' hK' => ?_
 have hrun := hmap.lookup (zeroRow w) hk
 unfold Oper.wp
 simp [execOp, hop, hm, hx, hrun, Result.andThen]
 exact hK' _ _ hK
theorem upd_mapv {ops : Array Oper} {rest : List Oper} {o : Oper} {a : Act} {Q : Exit → Act → World → Prop} {w : World} (hg : o.guard = none) (m x v : Operand)
  (hop : o.op = Op.mapUpdate 350 m x v) {b n : Nat} {f : Int → Value} (hmap : MapV w b n f) (hn : n ≤ 1000000000) {k : Int} (hk : InR k) {val : Value}
  (hm : a.eval m = .map (some b)) (hx : a.eval x = .int .i64 k) (hv : a.eval v = val)
  (hK : ∀ w', MapV w' b (n + 1) (fun y => if y = k then val else f y) → w.grownBy w' (some b) → wpList Try.prog ops Q rest (a.put o.dst undef) w') : wpList Try.prog ops Q (o :: rest) a w := by
 refine wpList_plain hg fun K' hK' => ?_
 obtain ⟨w', hrun, r1, r2⟩ := hmap.update hn hk val
 unfold Oper.wp
 simp [execOp, hop, hm, hx, hv, hrun, Result.andThen]
 exact hK' _ _ (hK w' r1 r2)
theorem app1At {ops : Array Oper} {rest : List Oper} {o : Oper} {a : Act} {Q : Exit → Act → World → Prop} {w : World} (hgd : o.guard = none) (s x : Operand)
  (ho : o.op = .call { callee := .builtin .append, args := #[s, x], argTypes := #[22, 22] })
  (base : Nat) (v : Value) (xs : List Int) (y : Int) (ad : Addr) (hs : a.eval s = v) (hx : a.eval x = .slice (some ad) 1 1)
  (hown : Own 3 base w v xs) (hc : w.cell? ad = some (.int .i64 y)) (hl : xs.length < 17592186044416) (hbase : base ≤ w.heap.size)
  (h : ∀ v' w', Own 3 base w' v' (xs ++ [y]) → w.grownBy w' v.ownBlock → (v'.ownBlock = v.ownBlock ∨ v'.ownBlock = some w.heap.size) → wpList Try.prog ops Q rest (a.put o.dst v') w') :
  wpList Try.prog ops Q (o :: rest) a w := by
 obtain ⟨i0, hi, hz0, hz1, hz2⟩ := info_parts info_int
 refine wpList_append_own_at w hgd s x 22 ho base 3 i0 (.int .i64 0) 1 8 Try.underlying22 hi hz0 hz1 hz2 rfl (by decide) v xs.length _ hs hown ad 1 1 [.int .i64 y] hx rfl ?_ ?_ ?_ ?_ hbase ?_
 ·intro j u hj
  match j with
  | 0 => simp at hj; subst hj; simpa [Addr.add] using hc
  | j + 1 => simp at hj
 ·intro u hu; simp at hu; subst hu; rfl
 ·unfold maxLen; omega
 ·omega
 ·intro v' w' h1 h2 h3 h4
  refine h v' w' ?_ h2 h4
  unfold Own
  simpa using h1
theorem grownSet (w : World) (a : Addr) (u : Value) : w.grownBy (w.setCell a u) (some a.block) :=
 ⟨rfl, rfl, rfl, by simp, fun k _ hk => heap_setCell_other w a k u (fun e => hk (by rw [e]))⟩
structure PW (w wr : World) (f : Int → Value) (out : List Int) (stk : Int → List Int) (mm : Nat) : Prop where
 row : Blk wr w.heap.size (out.map (Value.int .i64)).toArray 3
 map : MapV wr (w.heap.size + 1) mm f
 own : ∀ o s, IsKind o s → Own 3 (w.heap.size + 2) wr (f o) (stk o)
 sep : ∀ o s o' s', IsKind o s → IsKind o' s' → o ≠ o' → Sep (f o) (f o')
 bel : Below w.heap.size w wr
theorem PW.set {w wr : World} {f : Int → Value} {out : List Int} {stk : Int → List Int} {mm : Nat} (h : PW w wr f out stk mm) (i : Nat) (x : Int) :
  PW w (wr.setCell ⟨w.heap.size, i, none⟩ (.int .i64 x)) f (out.set i x) stk mm :=
 ⟨rowSet h.row i x, h.map.kept (grownSet _ _ _) (by simp), fun o s hk => (h.own o s hk).setCell (by show w.heap.size < _; omega) _, h.sep, h.bel.setCell (p := ⟨w.heap.size, i, none⟩) (Nat.le_refl _) _⟩
theorem PW.drewN {w wr : World} {f : Int → Value} {out : List Int} {stk : Int → List Int} {mm : Nat} (h : PW w wr f out stk mm) (n : Nat) : PW w (wr.drewN n) f out stk mm :=
 ⟨h.row, by obtain ⟨D, h1, h2⟩ := h.map; exact ⟨D, h1, h2⟩, fun o s hk => (h.own o s hk).drewN n, h.sep, below_drewN h.bel n⟩
theorem PW.alloc {w wr : World} {f : Int → Value} {out : List Int} {stk : Int → List Int} {mm : Nat} (h : PW w wr f out stk mm) (ob : Obj) : PW w (wr.alloc ob) f out stk mm :=
 ⟨h.row.alloc ob, h.map.alloc ob, fun o s hk => (h.own o s hk).alloc ob, h.sep, h.bel.alloc h.bel.size ob⟩
theorem PW.mapOf {w w1 w2 : World} {f : Int → Value} {out : List Int} {stk : Int → List Int} {mm : Nat} (h : PW w w1 f out stk mm) {o s : Int} (hk : IsKind o s) (hg : w1.grownBy w2 (f o).ownBlock) : MapV w2 (w.heap.size + 1) mm f :=
 h.map.kept hg ((h.own o s hk).ne (by omega))
theorem Own.grownB {e : TypeId} {base : Nat} {w w' : World} {v : Value} {xs : List Int} {b : Nat} (h : Own e base w v xs) (hg : w.grownBy w' (some b)) (hb : b < base) : Own e base w' v xs := by
 refine World.ownsRow.kept h hg ?_
 rcases hv : v.ownBlock with _ | j
 ·exact .inl rfl
 ·exact .inr (fun e => by have := h.row j hv; simp at e; omega)
theorem PW.push {w w1 w2 w3 : World} {f : Int → Value} {out : List Int} {stk : Int → List Int} {mm : Nat} (h : PW w w1 f out stk mm) {o s : Int} (hk : IsKind o s) {v' : Value} {ys : List Int}
  (h1 : Own 3 (w.heap.size + 2) w2 v' ys) (hg : w1.grownBy w2 (f o).ownBlock) (hat : v'.ownBlock = (f o).ownBlock ∨ v'.ownBlock = some w1.heap.size)
  (hm : MapV w3 (w.heap.size + 1) (mm + 1) (fun y => if y = o then v' else f y)) (hg2 : w2.grownBy w3 (some (w.heap.size + 1))) :
  PW w w3 (fun y => if y = o then v' else f y) out (fun y => if y = o then ys else stk y) (mm + 1) := by
 have hsepv : ∀ o' s', IsKind o' s' → o' ≠ o → Sep (f o') v' := fun o' s' hk' hne => by
  rcases hat with e | e
  ·have := h.sep o' s' o s hk' hk hne; unfold Sep at *; rw [e]; exact this
  ·rcases hv : (f o').ownBlock with _ | j
   ·exact .inl hv
   ·refine .inr ?_
    rw [hv, e]
    have := (World.ownsRow.lt (h.own o' s' hk') j hv).2
    simp; omega
 have hrow := (h.own o s hk).row
 refine ⟨?_, hm, fun o' s' hk' => ?_, fun o1 s1 o2 s2 hk1 hk2 hne => ?_, ?_⟩
 ·exact (h.row.grown hg ((h.own o s hk).ne (by omega))).grown hg2 (by simp)
 ·by_cases e : o' = o
  ·subst e; rw [if_pos rfl]; show Own _ _ _ _ (if o' = o' then ys else stk o'); rw [if_pos rfl]; exact h1.grownB hg2 (by omega)
  ·rw [if_neg e]; show Own _ _ _ _ (if o' = o then ys else stk o'); rw [if_neg e]
   exact ((h.own o' s' hk').grown hg (h.sep o' s' o s hk' hk e)).grownB hg2 (by omega)
 ·by_cases e1 : o1 = o
  ·by_cases e2 : o2 = o
   ·exact absurd (e1.trans e2.symm) hne
   ·rw [if_pos e1, if_neg e2]; exact (hsepv o2 s2 hk2 e2).symm
  ·by_cases e2 : o2 = o
   ·rw [if_neg e1, if_pos e2]; exact hsepv o1 s1 hk1 e1
   ·rw [if_neg e1, if_neg e2]; exact h.sep o1 s1 o2 s2 hk1 hk2 hne
 ·have hb1 : Below w.heap.size w w2 := h.bel.grown hg h.bel.size (fun j hj => by have := hrow j hj; omega)
  exact hb1.grown hg2 hb1.size (fun j hj => by simp at hj; omega)
theorem PW.pop {w w1 w3 : World} {f : Int → Value} {out : List Int} {stk : Int → List Int} {mm : Nat} (h : PW w w1 f out stk mm) {o s : Int} (hk : IsKind o s) {v' : Value} {ys : List Int}
  (h1 : Own 3 (w.heap.size + 2) w1 v' ys) (hat : v'.ownBlock = (f o).ownBlock)
  (hm : MapV w3 (w.heap.size + 1) (mm + 1) (fun y => if y = o then v' else f y)) (hg2 : w1.grownBy w3 (some (w.heap.size + 1))) :
  PW w w3 (fun y => if y = o then v' else f y) out (fun y => if y = o then ys else stk y) (mm + 1) :=
 h.push hk h1 ⟨rfl, rfl, rfl, Nat.le_refl _, fun _ _ _ => rfl⟩ (.inl hat) hm hg2
def PairsPost (l : List Int) (n : Nat) (w : World) (e : Ending) (w' : World) : Prop :=
 ∃ g, e = .returned (.tuple #[.slice (some ⟨g, 0, none⟩) n n, .int .i64 0]) ∧ Ints w' (some ⟨g, 0, none⟩) (pRun l n n).out ∧ Below w.heap.size w w'
set_option maxRecDepth 100000 in
set_option maxHeartbeats 1000000 in
theorem dyck_pairs (a : Option Addr) (n c : Nat) (l : List Int) (w : World) (ha : Ints w a l) (hn : l.length = n) (h2 : n ≤ 4096) :
  Calls Try.prog 258 #[.slice a n c] w (PairsPost l n w) := by
 have HN := Lib.hid hn; clear hn
 have hmk := make_int n n (Nat.le_refl _) (by omega)
 have hmm := @run_makeMap Try.prog
 go_enter Try.func258, Try.ntmps258
 go_wp2
 clear hmk hmm
 go_loopw [20] (fun i wr => ∃ (k mm : Nat) (f : Int → Value), i = .int .i64 (k : Int) ∧ k ≤ n ∧ mm ≤ k ∧ (∀ o, ((pRun l n k).stk o).length ≤ k) ∧ PW w wr f (pRun l n k).out (pRun l n k).stk mm) (fun i _ => n - (intOf i).toNat)
 case atStart =>
  refine ⟨0, 0, fun _ => nilV, rfl, by omega, by omega, fun o => by simp [pRun], ?_, ?_, ?_, ?_, below2 _ _ _⟩
  ·show Blk _ _ ((List.replicate n (0 : Int)).map (Value.int .i64)).toArray _
   rw [← madeRow n]; exact (Blk.new _ _ _).alloc _
  ·have := MapV.made (w.alloc (.cells (madeCells #[.int .i64 0] n) 3))
   rwa [World.size_alloc] at this
  ·exact fun o s h => Own.nil _ _ _
  ·exact fun _ _ _ _ _ _ _ => .inl rfl
 case round =>
  obtain ⟨k, mm, f, rfl, hk, hmm, hlen, hPW⟩ := hrel
  have hbel := hPW.bel
  have hsz := hbel.size
  have hbw := hPW.row.lt
  have hml := hPW.map.lt
  by_cases hlt : k < n
  ·obtain ⟨b1, o1, rfl, hc0⟩ := ha.at (k := k) (by rw [HN.out]; exact hlt)
   have ck : wr.cell? ⟨b1, o1 + k, none⟩ = some (.int .i64 (ix l k)) := by
    have := hc0 k (by rw [HN.out]; exact hlt)
    rw [hbel.cell (cell_lt this)]; exact this
   have hol := pRun_len l n k
   have co := rowCell hPW.row (i := k) (by rw [hol]; exact hlt)
   have cf := hPW.row.free k
   have HPW := hPW.set k (-1)
   clear hc0
   obtain ⟨S, hS⟩ : ∃ S, pRun l n k = S := ⟨_, rfl⟩
   obtain ⟨x, hx⟩ : ∃ x, ix l k = x := ⟨_, rfl⟩
   rw [hS] at hPW hlen co HPW
   rw [hx] at ck
   have HST : Hid (pRun l n (k + 1) = pStep x k S) := Lib.hid (by rw [← hS, ← hx]; rfl)
   have HOL : Hid (S.out.length = n) := Lib.hid (by rw [← hS]; exact hol)
   have HS := Lib.hid hS; have HX := Lib.hid hx
   clear hol hS hx
   by_cases ho : otherS x = 0
   ·have g0 : (otherS x == 0) = true := by simpa using ho
    have HS2 := Lib.hid (show pRun l n (k + 1) = ⟨S.out.set k (-1), S.stk⟩ by rw [HST.out]; simp [pStep, ho])
    go_wp2_with fail
    refine (dyck_other x _).mono ?_
    rintro e w' ⟨rfl, rfl⟩
    rw [ho]
    go_wp2
    go_roundw
    case rel =>
     refine ⟨k + 1, mm, f, by go_num, by omega, by omega, ?_, ?_⟩
     ·rw [HS2.out]; intro o; exact Nat.le_succ_of_le (hlen o)
     ·rw [HS2.out]; exact HPW
    case measure => simp [intOf]; omega
   ·have hr := otherS_range x
    have ho2 : (otherS x == 0) = false := by simpa using ho
    by_cases hs : shutS x = false
    ·have hk0 : IsKind x (otherS x) := by
      rcases kindOf x with ⟨h1, _⟩ | ⟨h1, _⟩ | ⟨_, _, h1⟩
      ·exact absurd h1 ho
      ·exact h1
      ·rw [hs] at h1; cases h1
     have HS2 := Lib.hid (show pRun l n (k + 1) = ⟨S.out.set k (-1), fun y => if y = x then S.stk x ++ [(k : Int)] else S.stk y⟩ by rw [HST.out]; simp [pStep, ho, hs])
     go_wp2_with fail
     refine (dyck_other x _).mono ?_
     rintro e w' ⟨rfl, rfl⟩
     rw [hs]
     generalize wr.setCell ⟨w.heap.size, k, none⟩ (.int .i64 (-1)) = w4 at *
     have hxr : InR x := by unfold IsKind at hk0; unfold InR; omega
     have hl1 := hlen x
     have hz4 := HPW.map.lt
     go_wp2_with (first | (at_lookup; refine look_mapv rfl _ _ rfl HPW.map hxr rfl rfl rfl ?_) | (at_builtin; refine app1At rfl _ _ rfl (w.heap.size + 2) (f x) _ _ _ rfl rfl ((HPW.own _ _ hk0).alloc _) (cell_new1 _ _ _) (by omega) (by rw [World.size_alloc]; omega) ?_; intro v3 w3 hown3 hgrow3 hat3) | (at_mapUpdate; refine upd_mapv rfl _ _ _ rfl ((HPW.alloc _).mapOf hk0 hgrow3) (by omega) hxr (val := v3) rfl rfl rfl ?_; intro w5 hm5 hg5))
     go_roundw
     case rel =>
      refine ⟨k + 1, mm + 1, fun y => if y = x then v3 else f y, by go_num, by omega, by omega, ?_, ?_⟩
      ·rw [HS2.out]; intro o
       show (if o = x then S.stk x ++ [(k : Int)] else S.stk o).length ≤ k + 1
       split
       ·simpa using hl1
       ·exact Nat.le_succ_of_le (hlen o)
      ·rw [HS2.out]; exact (HPW.alloc _).push hk0 hown3 hgrow3 hat3 hm5 hg5
     case measure => simp [intOf]; omega
    ·have hs2 : shutS x = true := by simpa using hs
     have hk0 : IsKind (otherS x) x := by
      rcases kindOf x with ⟨h1, _⟩ | ⟨_, _, h1⟩ | ⟨h1, _⟩
      ·exact absurd h1 ho
      ·rw [hs2] at h1; cases h1
      ·exact h1
     have hxr : InR (otherS x) := by unfold InR; omega
     by_cases he : S.stk (otherS x) = []
     ·have HS2 := Lib.hid (show pRun l n (k + 1) = ⟨S.out.set k (-1), S.stk⟩ by rw [HST.out]; simp [pStep, ho, hs2, he])
      have hown := HPW.own _ _ hk0
      rw [he] at hown
      obtain ⟨a4, n4, c4, hv⟩ := hown.form
      rw [hv] at hown
      obtain rfl : n4 = 0 := by have := hown.get.1; simpa using this.symm
      have HV := Lib.hid hv
      clear he hv hown
      go_wp2_with fail
      refine (dyck_other x _).mono ?_
      rintro e w' ⟨rfl, rfl⟩
      rw [hs2]
      go_wp2_with (at_lookup; refine look_mapv rfl _ _ rfl HPW.map hxr HV.out rfl rfl ?_)
      go_roundw
      case rel =>
       refine ⟨k + 1, mm, f, by go_num, by omega, by omega, ?_, ?_⟩
       ·rw [HS2.out]; intro o; exact Nat.le_succ_of_le (hlen o)
       ·rw [HS2.out]; exact HPW
      case measure => simp [intOf]; omega
     ·have hpos := List.length_pos_iff.2 he
      have hown := HPW.own _ _ hk0
      obtain ⟨g, kk, c4, hv, f1, f2, f3, f4, f5, f6, hI⟩ := hown.full hpos
      obtain ⟨m, rfl⟩ : ∃ m, kk = m + 1 := ⟨kk - 1, by omega⟩
      rw [hv] at hown
      have hl : (S.stk (otherS x)).length = m + 1 := by omega
      have hpop := hown.pop
      have hpl : (S.stk (otherS x)).dropLast.length = m := by simp [hl]
      have hl1 : (S.stk (otherS x)).length - 1 = m := by omega
      obtain ⟨b4, o4, hb4, hc4⟩ := hI.at (k := m) (by omega)
      simp only [Option.some.injEq, Addr.mk.injEq] at hb4
      obtain ⟨rfl, rfl, -⟩ := hb4
      have cm := hc4 m (by omega)
      rw [Nat.zero_add] at cm
      obtain ⟨-, p, hp, hmat⟩ := ((OutI.run l n k hk).stks (otherS x) x hk0).pop HX.out hk0.ne (by rw [HS.out]; exact hpos)
      have hplt := hmat.lt
      rw [HS.out, hl1] at hp
      rw [hp] at cm
      have HS2 := Lib.hid (show pRun l n (k + 1) = ⟨((S.out.set k (-1)).set k (p : Int)).set p (k : Int), fun y => if y = otherS x then (S.stk (otherS x)).dropLast else S.stk y⟩ by
       rw [HST.out]; simp only [pStep, ho, hs2, he, if_false, hl1, hp]; rfl)
      have i1 : ((m : Int) + 1 - 1).toNat = m := by omega
      have i2 : (m : Int) + 1 - 1 = m := by omega
      have i3 : ¬ (m : Int) + 1 = 0 := by omega
      have i4 : m ≤ c4 := by omega
      have HV := Lib.hid hv
      have HPL := Lib.hid hpl
      clear hv hl hl1 hpl hc4 he hown hI hmat
      go_wp2_with fail
      refine (dyck_other x _).mono ?_
      rintro e w' ⟨rfl, rfl⟩
      rw [hs2]
      generalize wr.setCell ⟨w.heap.size, k, none⟩ (.int .i64 (-1)) = w4 at *
      go_wp2_with (first | (at_lookup; refine look_mapv rfl _ _ rfl HPW.map hxr HV.out rfl rfl ?_) | (at_mapUpdate; refine upd_mapv rfl _ _ _ rfl HPW.map (by omega) hxr (val := .slice (some ⟨g, 0, none⟩) m c4) rfl rfl rfl ?_; intro w5 hm5 hg5; have hPW5 := HPW.pop hk0 hpop (by rw [HV.out]; rfl) hm5 hg5; have cf1 := hPW5.row.free k; have cf2 := hPW5.row.free p; have cc1 := rowCell hPW5.row (i := k) (by simp; rw [HOL.out]; omega); have cc2 := rowCell hPW5.row (i := p) (by simp; rw [HOL.out]; omega); have cc3 := HPW.bel; clear hm5 hg5))
      refine ⟨⟨k + 1, mm + 1, fun y => if y = otherS x then .slice (some ⟨g, 0, none⟩) m c4 else f y, by go_num, by omega, by omega, ?_, ?_⟩, by simp [intOf]; omega⟩
      ·rw [HS2.out]; intro o
       show (if o = otherS x then (S.stk (otherS x)).dropLast else S.stk o).length ≤ k + 1
       split
       ·rw [HPL.out]; have := hlen (otherS x); omega
       ·exact Nat.le_succ_of_le (hlen o)
      ·rw [HS2.out]
       exact (hPW5.set k p).set p k
  ·have hkn : k = n := by omega
   subst hkn
   go_wp2
   go_ret2
   exact ⟨_, rfl, ints_row hPW.row, hbel⟩
end Go.Proofs.Ytmipnikhgihcpaa
namespace Go.Proofs.Ytmipnikhgihcpaa
open Go.RowKit
def fiA (r : Option Int) : Int := match r with | some x => x | none => 0
def fiE (r : Option Int) : Int := match r with | some x => 0 | none => 5
def FiPost (r : Option Int) (w : World) (e : Ending) (w' : World) : Prop := e = .returned (.tuple #[.int .i64 (fiA r), .int .i64 (fiE r)]) ∧ Below w.heap.size w w'
theorem FiPost.of {r : Option Int} {A E : Int} {w w' : World} (h : r = if E = 0 then some A else none) (hE : E = 0 ∨ (E = 5 ∧ A = 0)) (hb : Below w.heap.size w w') : FiPost r w (.returned (.tuple #[.int .i64 A, .int .i64 E])) w' := by
 subst h
 rcases hE with rfl | ⟨rfl, rfl⟩
 ·exact ⟨rfl, hb⟩
 ·exact ⟨rfl, hb⟩
set_option maxRecDepth 100000 in
set_option maxHeartbeats 1000000 in
theorem goer_find_up (a : Option Addr) (n c : Nat) (l : List Int) (k m : Nat) (op : Bool) (ch : Int) (w : World) (hl : Ints w a l) (hn : l.length = n) (hn2 : n ≤ 4096) (hk : k ≤ n) (hm0 : 1 ≤ m) (hm : m ≤ 1000) :
  Calls Try.prog 267 #[goV a n c k (m : Int) op, .int .i64 ch, .int .i64 1] w (FiPost ((placesR l k ch)[m - 1]?) w) := by
 unfold goV
 have HR := Lib.hid (show (plU l ch (k + 1) (n - (k + 1)))[m - 1]? = (placesR l k ch)[m - 1]? by rw [placesR, hn])
 have HN := Lib.hid hn
 clear hn
 have hB := Blk.new w #[.slice a n c, .int .i64 (k : Int), .int .i64 (m : Int), .bool op] 323
 obtain ⟨c0, c1, c2, c3⟩ := hB.four
 have hacc := below1 w (.cells #[.slice a n c, .int .i64 (k : Int), .int .i64 (m : Int), .bool op] 323)
 have hI := hl.below hacc
 go_enter Try.func267, Try.ntmps267
 go_wp2
 go_loop [8, 9] (fun mv iv => ∃ i m' : Nat, mv = .int .i64 (m' : Int) ∧ iv = .int .i64 (i : Int) ∧ i ≤ n + 1 ∧ 1 ≤ m' ∧ m' ≤ m ∧ (plU l ch i (n - i))[m' - 1]? = (placesR l k ch)[m - 1]?) (fun _ iv => n + 1 - (intOf iv).toNat)
 case atStart => exact ⟨k + 1, m, rfl, by go_num, by omega, by omega, by omega, HR.out⟩
 case round =>
  obtain ⟨i, m', rfl, rfl, hi, hm1, hm2, hp⟩ := hrel
  by_cases hlt : i < n
  ·obtain ⟨b1, o1, rfl, hc⟩ := hI.at (k := i) (by rw [HN.out]; exact hlt)
   have e1 := hc i (by rw [HN.out]; exact hlt)
   rw [show n - i = (n - (i + 1)) + 1 from by omega] at hp
   clear hc hl hI
   by_cases hh : ix l i = ch
   ·rw [plU_hit hh] at hp
    have hb : (ix l i == ch) = true := by simpa using hh
    clear hh
    by_cases h1 : m' = 1
    ·subst h1
     have HP := Lib.hid hp.symm
     clear hp
     go_wp2
     go_ret2
     exact FiPost.of HP.out (.inl rfl) hacc
    ·have HP := Lib.hid (show (plU l ch (i + 1) (n - (i + 1)))[m' - 1 - 1]? = (placesR l k ch)[m - 1]? by
      rw [← hp, show m' - 1 = (m' - 1 - 1) + 1 from by omega]; simp)
     have hz : ((m' : Int) - 1 == 0) = false := by simp; omega
     clear hp
     go_wp2
     go_round
     case rel => exact ⟨i + 1, m' - 1, by congr 1; omega, by go_num, by omega, by omega, by omega, HP.out⟩
     case measure => simp [intOf]; omega
   ·rw [plU_miss hh] at hp
    have hb : (ix l i == ch) = false := by simpa using hh
    have HP := Lib.hid hp
    clear hh hp
    go_wp2
    go_round
    case rel => exact ⟨i + 1, m', rfl, by go_num, by omega, by omega, by omega, HP.out⟩
    case measure => simp [intOf]; omega
  ·rw [show n - i = 0 from by omega] at hp
   have HP := Lib.hid (show (placesR l k ch)[m - 1]? = none by rw [← hp]; simp [plU])
   clear hp hI hl
   go_wp2
   go_ret2
   exact FiPost.of HP.out (.inr ⟨rfl, rfl⟩) hacc
set_option maxRecDepth 100000 in
set_option maxHeartbeats 1000000 in
theorem goer_find_down (a : Option Addr) (n c : Nat) (l : List Int) (k m : Nat) (op : Bool) (ch : Int) (w : World) (hl : Ints w a l) (hn : l.length = n) (hn2 : n ≤ 4096) (hk : k ≤ n) (hm0 : 1 ≤ m) (hm : m ≤ 1000) :
  Calls Try.prog 267 #[goV a n c k (m : Int) op, .int .i64 ch, .int .i64 (-1)] w (FiPost ((placesL l k ch)[m - 1]?) w) := by
 unfold goV
 have HR := Lib.hid (show (plD l ch k)[m - 1]? = (placesL l k ch)[m - 1]? from rfl)
 have HN := Lib.hid hn
 clear hn
 have hB := Blk.new w #[.slice a n c, .int .i64 (k : Int), .int .i64 (m : Int), .bool op] 323
 obtain ⟨c0, c1, c2, c3⟩ := hB.four
 have hacc := below1 w (.cells #[.slice a n c, .int .i64 (k : Int), .int .i64 (m : Int), .bool op] 323)
 have hI := hl.below hacc
 go_enter Try.func267, Try.ntmps267
 go_wp2
 go_loop [8, 9] (fun mv iv => ∃ i m' : Nat, mv = .int .i64 (m' : Int) ∧ iv = .int .i64 ((i : Int) - 1) ∧ i ≤ n ∧ 1 ≤ m' ∧ m' ≤ m ∧ (plD l ch i)[m' - 1]? = (placesL l k ch)[m - 1]?) (fun _ iv => (intOf iv + 1).toNat)
 case atStart => exact ⟨k, m, rfl, by first | rfl | (congr 1), by omega, by omega, by omega, HR.out⟩
 case round =>
  obtain ⟨i, m', rfl, rfl, hi, hm1, hm2, hp⟩ := hrel
  rcases i with _ | i
  ·have HP := Lib.hid (show (placesL l k ch)[m - 1]? = none by rw [← hp]; simp [plD])
   clear hp hI hl
   go_wp2
   go_ret2
   exact FiPost.of HP.out (.inr ⟨rfl, rfl⟩) hacc
  ·have hlt : i < n := by omega
   rw [show (((i + 1 : Nat) : Int) - 1) = (i : Int) from by omega]
   obtain ⟨b1, o1, rfl, hc⟩ := hI.at (k := i) (by rw [HN.out]; exact hlt)
   have e1 := hc i (by rw [HN.out]; exact hlt)
   clear hc hl hI
   by_cases hh : ix l i = ch
   ·rw [plD_hit hh] at hp
    have hb : (ix l i == ch) = true := by simpa using hh
    clear hh
    by_cases h1 : m' = 1
    ·subst h1
     have HP := Lib.hid hp.symm
     clear hp
     go_wp2
     go_ret2
     exact FiPost.of HP.out (.inl rfl) hacc
    ·have HP := Lib.hid (show (plD l ch i)[m' - 1 - 1]? = (placesL l k ch)[m - 1]? by
      rw [← hp, show m' - 1 = (m' - 1 - 1) + 1 from by omega]; simp)
     have hz : ((m' : Int) - 1 == 0) = false := by simp; omega
     clear hp
     go_wp2
     go_round
     case rel => exact ⟨i, m' - 1, by congr 1; omega, by first | rfl | (congr 1), by omega, by omega, by omega, HP.out⟩
     case measure => simp [intOf]; omega
   ·rw [plD_miss hh] at hp
    have hb : (ix l i == ch) = false := by simpa using hh
    have HP := Lib.hid hp
    clear hh hp
    go_wp2
    go_round
    case rel => exact ⟨i, m', rfl, by first | rfl | (congr 1), by omega, by omega, by omega, HP.out⟩
    case measure => simp [intOf]; omega
theorem other_open (c : Int) : otherS c ≠ 0 ↔ openS c ≠ 0 := by
 unfold otherS openS
 (repeat' split) <;> simp_all <;> omega
def partS (l : List Int) (k : Nat) : Option (Int × Bool) := if partF l k < 0 then none else some (partF l k, true)
theorem partF_hit {l : List Int} {k i : Nat} (hk : k ≤ i) (hi : i < l.length) (h : openS (ix l i) ≠ 0) (hno : ∀ t, k ≤ t → t < i → openS (ix l t) = 0) : partF l k = ix (pRun l l.length l.length).out i := by
 unfold partF
 split
 ·rename_i r hr
  obtain ⟨h1, h2, h3, h4⟩ := seekUp_some hr
  simp at h3
  rcases Nat.lt_trichotomy r i with h' | h' | h'
  ·exact absurd (hno r h1 h') h3
  ·rw [h']
  ·have := h4 i hk h'; simp at this; exact absurd this h
 ·rename_i hr
  have := seekUp_none hr i hk (by omega)
  simp at this; exact absurd this h
theorem partF_none {l : List Int} {k : Nat} (hno : ∀ t, k ≤ t → t < l.length → openS (ix l t) = 0) : partF l k = -1 := by
 unfold partF
 split
 ·rename_i r hr
  obtain ⟨h1, h2, h3, h4⟩ := seekUp_some hr
  simp at h3
  exact absurd (hno r h1 (by omega)) h3
 ·rfl
set_option maxRecDepth 100000 in
set_option maxHeartbeats 1000000 in
theorem goer_partner (a : Option Addr) (n c : Nat) (l : List Int) (k : Nat) (m : Int) (op : Bool) (w : World) (hl : Ints w a l) (hn : l.length = n) (hn2 : n ≤ 4096) (hk : k ≤ n) :
  Calls Try.prog 274 #[goV a n c k m op] w (MoPost (partS l k) w) := by
 unfold goV
 have HN := Lib.hid hn
 clear hn
 have hB := (Blk.new w #[.slice a n c, .int .i64 (k : Int), .int .i64 m, .bool op] 323).alloc (.cells #[.int .i64 0, .bool false] 325)
 obtain ⟨c0, c1, c2, c3⟩ := hB.four
 have hP := Blk.new (w.alloc (.cells #[.slice a n c, .int .i64 (k : Int), .int .i64 m, .bool op] 323)) #[.int .i64 0, .bool false] 325
 rw [World.size_alloc] at hP
 have hacc := below2 w (.cells #[.slice a n c, .int .i64 (k : Int), .int .i64 m, .bool op] 323) (.cells #[.int .i64 0, .bool false] 325)
 have hI := hl.below hacc
 go_enter Try.func274, Try.ntmps274
 go_wp2_with fail
 refine (dyck_pairs a n c l _ hI HN.out hn2).mono ?_
 rintro e w2 ⟨g, rfl, hI2, hb2⟩
 have hB2 := hB.below hb2 hB.lt
 obtain ⟨d0, d1, d2, d3⟩ := hB2.four
 have hP2 := hP.below hb2 hP.lt
 obtain ⟨s0, s1, s2, s3⟩ := hP2.two
 have hacc2 := below_then hacc (by simp; omega) hb2
 have hI3 := hl.below hacc2
 have hi0 : (0 : Int) ≤ (k : Int) := by omega
 clear c0 c1 c2 c3 hI
 go_wp2
 go_loop [6] (fun iv => ∃ i : Nat, iv = .int .i64 (i : Int) ∧ k ≤ i ∧ i ≤ n ∧ ∀ t, k ≤ t → t < i → openS (ix l t) = 0) (fun iv => n - (intOf iv).toNat)
 case atStart => exact ⟨k, rfl, by omega, by omega, fun t h1 h2 => by omega⟩
 case round =>
  obtain ⟨i, rfl, hi1, hi2, hno⟩ := hrel
  have HO := Lib.hid hno; clear hno
  by_cases hlt : i < n
  ·obtain ⟨b1, o1, rfl, hc⟩ := hI3.at (k := i) (by rw [HN.out]; exact hlt)
   have e1 := hc i (by rw [HN.out]; exact hlt)
   clear hc hl hI3
   by_cases hz : openS (ix l i) = 0
   ·have hz' : (otherS (ix l i) != 0) = false := by
     have := other_open (ix l i)
     rw [bne_eq_false_iff_eq]
     exact Decidable.byContradiction fun h => (this.1 h) hz
    have HZ := Lib.hid hz; clear hz
    go_wp2_with ((go_at_call 292); refine (dyck_kind _ _).mono ?_; rintro e w' ⟨rfl, rfl⟩)
    go_round
    case rel => exact ⟨i + 1, by go_num, by omega, by omega, fun t h1 h2 => by
     rcases Nat.lt_succ_iff_lt_or_eq.1 h2 with h | rfl
     ·exact HO.out t h1 h
     ·exact HZ.out⟩
    case measure => simp [intOf]; omega
   ·have hz' : (otherS (ix l i) != 0) = true := by simpa using (other_open (ix l i)).2 hz
    have HF := Lib.hid (show partF l k = ix (pRun l n n).out i by
     have := partF_hit hi1 (by rw [HN.out]; exact hlt) hz HO.out
     rwa [HN.out] at this)
    obtain ⟨g1, o2, hg, hc2⟩ := hI2.at (k := i) (by rw [pRun_len]; exact hlt)
    simp only [Option.some.injEq, Addr.mk.injEq] at hg
    obtain ⟨rfl, rfl, -⟩ := hg
    have e2 := hc2 i (by rw [pRun_len]; exact hlt)
    rw [Nat.zero_add] at e2
    obtain ⟨y, hy⟩ : ∃ y, ix (pRun l n n).out i = y := ⟨_, rfl⟩
    rw [hy] at e2
    have HF2 := Lib.hid (show partF l k = y by rw [HF.out, hy])
    clear hz hy hc2 HF
    by_cases hneg : y < 0
    ·have HR := Lib.hid (show partS l k = none by rw [partS, HF2.out, if_pos hneg])
     go_wp2_with ((go_at_call 292); refine (dyck_kind _ _).mono ?_; rintro e w' ⟨rfl, rfl⟩)
     rw [HR.out]
     have hG := (hP2.set 0 (.int .i64 (0))).set 1 (.bool false)
     obtain ⟨q0, q1, -, -⟩ := Blk.two hG
     refine bodyPost_ret (v := .tuple #[.agg #[.int .i64 (0), .bool false], .int .i64 5]) (by simp [results, Try.results274, go_sem, q0, q1]) rfl ⟨rfl, ?_⟩
     first | exact (hacc2.setCell (p := ⟨w.heap.size + 1, 0, none⟩) (Nat.le_succ _) _).setCell (p := ⟨w.heap.size + 1, 1, none⟩) (Nat.le_succ _) _ | exact below2 _ _ _
    ·have HR := Lib.hid (show partS l k = some (y, true) by rw [partS, HF2.out, if_neg hneg])
     go_wp2_with ((go_at_call 292); refine (dyck_kind _ _).mono ?_; rintro e w' ⟨rfl, rfl⟩)
     rw [HR.out]
     have hG := (hP2.set 0 (.int .i64 (y))).set 1 (.bool true)
     obtain ⟨q0, q1, -, -⟩ := Blk.two hG
     refine bodyPost_ret (v := .tuple #[.agg #[.int .i64 (y), .bool true], .int .i64 0]) (by simp [results, Try.results274, go_sem, q0, q1]) rfl ⟨rfl, ?_⟩
     first | exact (hacc2.setCell (p := ⟨w.heap.size + 1, 0, none⟩) (Nat.le_succ _) _).setCell (p := ⟨w.heap.size + 1, 1, none⟩) (Nat.le_succ _) _ | exact below2 _ _ _
  ·obtain rfl : i = n := by omega
   have HR := Lib.hid (show partS l k = none by rw [partS, partF_none (by rw [HN.out]; exact HO.out), if_pos (by omega)])
   go_wp2
   rw [HR.out]
   have hG := (hP2.set 0 (.int .i64 (0))).set 1 (.bool false)
   obtain ⟨q0, q1, -, -⟩ := Blk.two hG
   refine bodyPost_ret (v := .tuple #[.agg #[.int .i64 (0), .bool false], .int .i64 5]) (by simp [results, Try.results274, go_sem, q0, q1]) rfl ⟨rfl, ?_⟩
   first | exact (hacc2.setCell (p := ⟨w.heap.size + 1, 0, none⟩) (Nat.le_succ _) _).setCell (p := ⟨w.heap.size + 1, 1, none⟩) (Nat.le_succ _) _ | exact below2 _ _ _
set_option maxRecDepth 100000 in
set_option maxHeartbeats 1000000 in
theorem plain_h (a : Option Addr) (n c : Nat) (l : List Int) (k m : Nat) (op : Bool) (w : World) (hl : Ints w a l) (hn : l.length = n) (hn2 : n ≤ 4096) (hk : k ≤ n) (hk2 : k < n ∨ n = 0) (hm0 : 1 ≤ m) (hm : m ≤ 999) (arg : Int) :
  Calls Try.prog 253 #[goV a n c k (m : Int) op, .int .i64 104] w (MoPost (moS l k 104 (m : Int) arg op) w) := by
 unfold goV
 have hB := (Blk.new w #[.slice a n c, .int .i64 (k : Int), .int .i64 (m : Int), .bool op] 323).alloc (.cells #[.int .i64 0, .bool false] 325)
 obtain ⟨c0, c1, c2, c3⟩ := hB.four
 have hP := Blk.new (w.alloc (.cells #[.slice a n c, .int .i64 (k : Int), .int .i64 (m : Int), .bool op] 323)) #[.int .i64 0, .bool false] 325
 rw [World.size_alloc] at hP
 have hacc := below2 w (.cells #[.slice a n c, .int .i64 (k : Int), .int .i64 (m : Int), .bool op] 323) (.cells #[.int .i64 0, .bool false] 325)
 have hI := hl.below hacc
 have HN := Lib.hid hn
 clear hn
 by_cases h0 : k = 0
 ·subst h0
  have HR := Lib.hid (show moS l 0 104 (m : Int) arg op = none by simp [moS])
  go_enter Try.func253, Try.ntmps253
  go_wp2
  rw [HR.out]
  have hG := (hP.set 0 (.int .i64 (0))).set 1 (.bool false)
  obtain ⟨q0, q1, -, -⟩ := Blk.two hG
  refine bodyPost_ret (v := .tuple #[.agg #[.int .i64 (0), .bool false], .int .i64 5]) (by simp [results, Try.results253, go_sem, q0, q1]) rfl ⟨rfl, ?_⟩
  first | exact (hacc.setCell (p := ⟨w.heap.size + 1, 0, none⟩) (Nat.le_succ _) _).setCell (p := ⟨w.heap.size + 1, 1, none⟩) (Nat.le_succ _) _ | exact below2 _ _ _
 ·have h0' : ((k : Int) == 0) = false := by simp; omega
  rcases (show m < k ∨ k ≤ m by omega) with h1 | h1
  ·have h2 : 0 < (k : Int) - (m : Int) := by omega
   have HM := Lib.hid (show max 0 ((k : Int) - m) = (k : Int) - m by omega)
   have HR := Lib.hid (show moS l k 104 (m : Int) arg op = some (max 0 ((k : Int) - m), false) by simp [moS, h0])
   clear h0
   go_enter Try.func253, Try.ntmps253
   go_wp2
   rw [HR.out, HM.out]
   have hG := (hP.set 0 (.int .i64 ((k : Int) - m))).set 1 (.bool false)
   obtain ⟨q0, q1, -, -⟩ := Blk.two hG
   refine bodyPost_ret (v := .tuple #[.agg #[.int .i64 ((k : Int) - m), .bool false], .int .i64 0]) (by simp [results, Try.results253, go_sem, q0, q1]) rfl ⟨rfl, ?_⟩
   first | exact (hacc.setCell (p := ⟨w.heap.size + 1, 0, none⟩) (Nat.le_succ _) _).setCell (p := ⟨w.heap.size + 1, 1, none⟩) (Nat.le_succ _) _ | exact below2 _ _ _
  ·have h2 : (k : Int) - (m : Int) ≤ 0 := by omega
   have HM := Lib.hid (show max 0 ((k : Int) - m) = 0 by omega)
   have HR := Lib.hid (show moS l k 104 (m : Int) arg op = some (max 0 ((k : Int) - m), false) by simp [moS, h0])
   clear h0
   go_enter Try.func253, Try.ntmps253
   go_wp2
   rw [HR.out, HM.out]
   have hG := (hP.set 0 (.int .i64 (0))).set 1 (.bool false)
   obtain ⟨q0, q1, -, -⟩ := Blk.two hG
   refine bodyPost_ret (v := .tuple #[.agg #[.int .i64 (0), .bool false], .int .i64 0]) (by simp [results, Try.results253, go_sem, q0, q1]) rfl ⟨rfl, ?_⟩
   first | exact (hacc.setCell (p := ⟨w.heap.size + 1, 0, none⟩) (Nat.le_succ _) _).setCell (p := ⟨w.heap.size + 1, 1, none⟩) (Nat.le_succ _) _ | exact below2 _ _ _
set_option maxRecDepth 100000 in
set_option maxHeartbeats 1000000 in
theorem plain_l (a : Option Addr) (n c : Nat) (l : List Int) (k m : Nat) (op : Bool) (w : World) (hl : Ints w a l) (hn : l.length = n) (hn2 : n ≤ 4096) (hk : k ≤ n) (hk2 : k < n ∨ n = 0) (hm0 : 1 ≤ m) (hm : m ≤ 999) (arg : Int) :
  Calls Try.prog 253 #[goV a n c k (m : Int) op, .int .i64 108] w (MoPost (moS l k 108 (m : Int) arg op) w) := by
 unfold goV
 have hB := (Blk.new w #[.slice a n c, .int .i64 (k : Int), .int .i64 (m : Int), .bool op] 323).alloc (.cells #[.int .i64 0, .bool false] 325)
 obtain ⟨c0, c1, c2, c3⟩ := hB.four
 have hP := Blk.new (w.alloc (.cells #[.slice a n c, .int .i64 (k : Int), .int .i64 (m : Int), .bool op] 323)) #[.int .i64 0, .bool false] 325
 rw [World.size_alloc] at hP
 have hacc := below2 w (.cells #[.slice a n c, .int .i64 (k : Int), .int .i64 (m : Int), .bool op] 323) (.cells #[.int .i64 0, .bool false] 325)
 have hI := hl.below hacc
 have HN := Lib.hid hn
 have HR := Lib.hid (show moS l k 108 (m : Int) arg op = rightS n k m op by unfold moS rightS; rw [if_neg (by decide), if_pos rfl, hn])
 clear hn
 obtain ⟨r, hr⟩ : ∃ r, rightS n k (m : Int) op = r := ⟨_, rfl⟩
 have HR2 := Lib.hid hr; clear hr
 go_enter Try.func253, Try.ntmps253
 go_wp2_with ((go_at_call 268); refine (goer_right a n c k m op _ hn2 hk (by omega) (by omega)).mono ?_; rintro e w2 ⟨rfl, hb2⟩; rw [HR2.out]; have hB2 := hB.below hb2 hB.lt; obtain ⟨d0, d1, d2, d3⟩ := hB2.four; have hP2 := hP.below hb2 hP.lt; obtain ⟨s0, s1, s2, s3⟩ := hP2.two; have hacc2 := below_then hacc (by simp; omega) hb2)
 rw [HR.out, HR2.out]
 have hG := (hP2.set 0 (.int .i64 (moA r))).set 1 (.bool (moTh r))
 obtain ⟨q0, q1, -, -⟩ := Blk.two hG
 refine bodyPost_ret (v := .tuple #[.agg #[.int .i64 (moA r), .bool (moTh r)], .int .i64 (moE r)]) (by simp [results, Try.results253, go_sem, q0, q1]) rfl ⟨rfl, ?_⟩
 first | exact (hacc2.setCell (p := ⟨w.heap.size + 1, 0, none⟩) (Nat.le_succ _) _).setCell (p := ⟨w.heap.size + 1, 1, none⟩) (Nat.le_succ _) _ | exact below2 _ _ _
set_option maxRecDepth 100000 in
set_option maxHeartbeats 1000000 in
theorem plain_0 (a : Option Addr) (n c : Nat) (l : List Int) (k m : Nat) (op : Bool) (w : World) (hl : Ints w a l) (hn : l.length = n) (hn2 : n ≤ 4096) (hk : k ≤ n) (hk2 : k < n ∨ n = 0) (hm0 : 1 ≤ m) (hm : m ≤ 999) (arg : Int) :
  Calls Try.prog 253 #[goV a n c k (m : Int) op, .int .i64 48] w (MoPost (moS l k 48 (m : Int) arg op) w) := by
 unfold goV
 have hB := (Blk.new w #[.slice a n c, .int .i64 (k : Int), .int .i64 (m : Int), .bool op] 323).alloc (.cells #[.int .i64 0, .bool false] 325)
 obtain ⟨c0, c1, c2, c3⟩ := hB.four
 have hP := Blk.new (w.alloc (.cells #[.slice a n c, .int .i64 (k : Int), .int .i64 (m : Int), .bool op] 323)) #[.int .i64 0, .bool false] 325
 rw [World.size_alloc] at hP
 have hacc := below2 w (.cells #[.slice a n c, .int .i64 (k : Int), .int .i64 (m : Int), .bool op] 323) (.cells #[.int .i64 0, .bool false] 325)
 have hI := hl.below hacc
 have HN := Lib.hid hn
 clear hn
 have HR := Lib.hid (show moS l k 48 (m : Int) arg op = some (0, false) by simp [moS])
 go_enter Try.func253, Try.ntmps253
 go_wp2
 rw [HR.out]
 have hG := (hP.set 0 (.int .i64 (0))).set 1 (.bool false)
 obtain ⟨q0, q1, -, -⟩ := Blk.two hG
 refine bodyPost_ret (v := .tuple #[.agg #[.int .i64 (0), .bool false], .int .i64 0]) (by simp [results, Try.results253, go_sem, q0, q1]) rfl ⟨rfl, ?_⟩
 first | exact (hacc.setCell (p := ⟨w.heap.size + 1, 0, none⟩) (Nat.le_succ _) _).setCell (p := ⟨w.heap.size + 1, 1, none⟩) (Nat.le_succ _) _ | exact below2 _ _ _
set_option maxRecDepth 100000 in
set_option maxHeartbeats 1000000 in
theorem plain_first (a : Option Addr) (n c : Nat) (l : List Int) (k m : Nat) (op : Bool) (w : World) (hl : Ints w a l) (hn : l.length = n) (hn2 : n ≤ 4096) (hk : k ≤ n) (hk2 : k < n ∨ n = 0) (hm0 : 1 ≤ m) (hm : m ≤ 999) (arg : Int) :
  Calls Try.prog 253 #[goV a n c k (m : Int) op, .int .i64 94] w (MoPost (moS l k 94 (m : Int) arg op) w) := by
 unfold goV
 have hB := (Blk.new w #[.slice a n c, .int .i64 (k : Int), .int .i64 (m : Int), .bool op] 323).alloc (.cells #[.int .i64 0, .bool false] 325)
 obtain ⟨c0, c1, c2, c3⟩ := hB.four
 have hP := Blk.new (w.alloc (.cells #[.slice a n c, .int .i64 (k : Int), .int .i64 (m : Int), .bool op] 323)) #[.int .i64 0, .bool false] 325
 rw [World.size_alloc] at hP
 have hacc := below2 w (.cells #[.slice a n c, .int .i64 (k : Int), .int .i64 (m : Int), .bool op] 323) (.cells #[.int .i64 0, .bool false] 325)
 have hI := hl.below hacc
 have HN := Lib.hid hn
 have HN := Lib.hid hn
 clear hn
 obtain ⟨t, ht⟩ : ∃ t, firstF l = t := ⟨_, rfl⟩
 have HT := Lib.hid ht; clear ht
 have HR := Lib.hid (show moS l k 94 (m : Int) arg op = some (firstF l, false) by simp [moS])
 go_enter Try.func253, Try.ntmps253
 go_wp2_with ((go_at_call 269); refine (goer_first a n c l k m op _ hI HN.out hn2).mono ?_; rintro e w2 ⟨rfl, hb2⟩; rw [HT.out]; have hB2 := hB.below hb2 hB.lt; obtain ⟨d0, d1, d2, d3⟩ := hB2.four; have hP2 := hP.below hb2 hP.lt; obtain ⟨s0, s1, s2, s3⟩ := hP2.two; have hacc2 := below_then hacc (by simp; omega) hb2)
 rw [HR.out, HT.out]
 have hG := (hP2.set 0 (.int .i64 (t))).set 1 (.bool false)
 obtain ⟨q0, q1, -, -⟩ := Blk.two hG
 refine bodyPost_ret (v := .tuple #[.agg #[.int .i64 (t), .bool false], .int .i64 0]) (by simp [results, Try.results253, go_sem, q0, q1]) rfl ⟨rfl, ?_⟩
 first | exact (hacc2.setCell (p := ⟨w.heap.size + 1, 0, none⟩) (Nat.le_succ _) _).setCell (p := ⟨w.heap.size + 1, 1, none⟩) (Nat.le_succ _) _ | exact below2 _ _ _
set_option maxRecDepth 100000 in
set_option maxHeartbeats 1000000 in
theorem plain_b (a : Option Addr) (n c : Nat) (l : List Int) (k m : Nat) (op : Bool) (w : World) (hl : Ints w a l) (hn : l.length = n) (hn2 : n ≤ 4096) (hk : k ≤ n) (hk2 : k < n ∨ n = 0) (hm0 : 1 ≤ m) (hm : m ≤ 999) (arg : Int) :
  Calls Try.prog 253 #[goV a n c k (m : Int) op, .int .i64 98] w (MoPost (moS l k 98 (m : Int) arg op) w) := by
 unfold goV
 have hB := (Blk.new w #[.slice a n c, .int .i64 (k : Int), .int .i64 (m : Int), .bool op] 323).alloc (.cells #[.int .i64 0, .bool false] 325)
 obtain ⟨c0, c1, c2, c3⟩ := hB.four
 have hP := Blk.new (w.alloc (.cells #[.slice a n c, .int .i64 (k : Int), .int .i64 (m : Int), .bool op] 323)) #[.int .i64 0, .bool false] 325
 rw [World.size_alloc] at hP
 have hacc := below2 w (.cells #[.slice a n c, .int .i64 (k : Int), .int .i64 (m : Int), .bool op] 323) (.cells #[.int .i64 0, .bool false] 325)
 have hI := hl.below hacc
 have HN := Lib.hid hn
 clear hn
 by_cases h0 : k = 0
 ·subst h0
  have HR := Lib.hid (show moS l 0 98 (m : Int) arg op = none by simp [moS])
  go_enter Try.func253, Try.ntmps253
  go_wp2
  rw [HR.out]
  have hG := (hP.set 0 (.int .i64 (0))).set 1 (.bool false)
  obtain ⟨q0, q1, -, -⟩ := Blk.two hG
  refine bodyPost_ret (v := .tuple #[.agg #[.int .i64 (0), .bool false], .int .i64 5]) (by simp [results, Try.results253, go_sem, q0, q1]) rfl ⟨rfl, ?_⟩
  first | exact (hacc.setCell (p := ⟨w.heap.size + 1, 0, none⟩) (Nat.le_succ _) _).setCell (p := ⟨w.heap.size + 1, 1, none⟩) (Nat.le_succ _) _ | exact below2 _ _ _
 ·have h0' : ((k : Int) == 0) = false := by simp; omega
  obtain ⟨t, ht⟩ : ∃ t, iterF (backF l false) m k = t := ⟨_, rfl⟩
  have HT := Lib.hid ht; clear ht
  have HR := Lib.hid (show moS l k 98 (m : Int) arg op = some (iterF (backF l false) m k, false) by simp [moS, h0])
  clear h0
  go_enter Try.func253, Try.ntmps253
  go_wp2_with ((go_at_call 270); refine (goer_times_back a n c l k m op false _ hI HN.out hn2 hk (by omega)).mono ?_; rintro e w2 ⟨rfl, hb2⟩; rw [HT.out]; have hB2 := hB.below hb2 hB.lt; obtain ⟨d0, d1, d2, d3⟩ := hB2.four; have hP2 := hP.below hb2 hP.lt; obtain ⟨s0, s1, s2, s3⟩ := hP2.two; have hacc2 := below_then hacc (by simp; omega) hb2)
  rw [HR.out, HT.out]
  have hG := (hP2.set 0 (.int .i64 (t))).set 1 (.bool false)
  obtain ⟨q0, q1, -, -⟩ := Blk.two hG
  refine bodyPost_ret (v := .tuple #[.agg #[.int .i64 (t), .bool false], .int .i64 0]) (by simp [results, Try.results253, go_sem, q0, q1]) rfl ⟨rfl, ?_⟩
  first | exact (hacc2.setCell (p := ⟨w.heap.size + 1, 0, none⟩) (Nat.le_succ _) _).setCell (p := ⟨w.heap.size + 1, 1, none⟩) (Nat.le_succ _) _ | exact below2 _ _ _
set_option maxRecDepth 100000 in
set_option maxHeartbeats 1000000 in
theorem plain_B (a : Option Addr) (n c : Nat) (l : List Int) (k m : Nat) (op : Bool) (w : World) (hl : Ints w a l) (hn : l.length = n) (hn2 : n ≤ 4096) (hk : k ≤ n) (hk2 : k < n ∨ n = 0) (hm0 : 1 ≤ m) (hm : m ≤ 999) (arg : Int) :
  Calls Try.prog 253 #[goV a n c k (m : Int) op, .int .i64 66] w (MoPost (moS l k 66 (m : Int) arg op) w) := by
 unfold goV
 have hB := (Blk.new w #[.slice a n c, .int .i64 (k : Int), .int .i64 (m : Int), .bool op] 323).alloc (.cells #[.int .i64 0, .bool false] 325)
 obtain ⟨c0, c1, c2, c3⟩ := hB.four
 have hP := Blk.new (w.alloc (.cells #[.slice a n c, .int .i64 (k : Int), .int .i64 (m : Int), .bool op] 323)) #[.int .i64 0, .bool false] 325
 rw [World.size_alloc] at hP
 have hacc := below2 w (.cells #[.slice a n c, .int .i64 (k : Int), .int .i64 (m : Int), .bool op] 323) (.cells #[.int .i64 0, .bool false] 325)
 have hI := hl.below hacc
 have HN := Lib.hid hn
 clear hn
 by_cases h0 : k = 0
 ·subst h0
  have HR := Lib.hid (show moS l 0 66 (m : Int) arg op = none by simp [moS])
  go_enter Try.func253, Try.ntmps253
  go_wp2
  rw [HR.out]
  have hG := (hP.set 0 (.int .i64 (0))).set 1 (.bool false)
  obtain ⟨q0, q1, -, -⟩ := Blk.two hG
  refine bodyPost_ret (v := .tuple #[.agg #[.int .i64 (0), .bool false], .int .i64 5]) (by simp [results, Try.results253, go_sem, q0, q1]) rfl ⟨rfl, ?_⟩
  first | exact (hacc.setCell (p := ⟨w.heap.size + 1, 0, none⟩) (Nat.le_succ _) _).setCell (p := ⟨w.heap.size + 1, 1, none⟩) (Nat.le_succ _) _ | exact below2 _ _ _
 ·have h0' : ((k : Int) == 0) = false := by simp; omega
  obtain ⟨t, ht⟩ : ∃ t, iterF (backF l true) m k = t := ⟨_, rfl⟩
  have HT := Lib.hid ht; clear ht
  have HR := Lib.hid (show moS l k 66 (m : Int) arg op = some (iterF (backF l true) m k, false) by simp [moS, h0])
  clear h0
  go_enter Try.func253, Try.ntmps253
  go_wp2_with ((go_at_call 270); refine (goer_times_back a n c l k m op true _ hI HN.out hn2 hk (by omega)).mono ?_; rintro e w2 ⟨rfl, hb2⟩; rw [HT.out]; have hB2 := hB.below hb2 hB.lt; obtain ⟨d0, d1, d2, d3⟩ := hB2.four; have hP2 := hP.below hb2 hP.lt; obtain ⟨s0, s1, s2, s3⟩ := hP2.two; have hacc2 := below_then hacc (by simp; omega) hb2)
  rw [HR.out, HT.out]
  have hG := (hP2.set 0 (.int .i64 (t))).set 1 (.bool false)
  obtain ⟨q0, q1, -, -⟩ := Blk.two hG
  refine bodyPost_ret (v := .tuple #[.agg #[.int .i64 (t), .bool false], .int .i64 0]) (by simp [results, Try.results253, go_sem, q0, q1]) rfl ⟨rfl, ?_⟩
  first | exact (hacc2.setCell (p := ⟨w.heap.size + 1, 0, none⟩) (Nat.le_succ _) _).setCell (p := ⟨w.heap.size + 1, 1, none⟩) (Nat.le_succ _) _ | exact below2 _ _ _
set_option maxRecDepth 100000 in
set_option maxHeartbeats 1000000 in
theorem plain_nil_36 (a : Option Addr) (n c : Nat) (l : List Int) (k m : Nat) (op : Bool) (w : World) (hl : Ints w a l) (hn : l.length = n) (hn2 : n ≤ 4096) (hk : k ≤ n) (hk2 : k < n ∨ n = 0) (hm0 : 1 ≤ m) (hm : m ≤ 999) (arg : Int) (h0 : n = 0) (hl0 : l.length = 0) :
  Calls Try.prog 253 #[goV a n c k (m : Int) op, .int .i64 36] w (MoPost (moS l k 36 (m : Int) arg op) w) := by
 subst h0
 unfold goV
 have hB := (Blk.new w #[.slice a 0 c, .int .i64 (k : Int), .int .i64 (m : Int), .bool op] 323).alloc (.cells #[.int .i64 0, .bool false] 325)
 obtain ⟨c0, c1, c2, c3⟩ := hB.four
 have hP := Blk.new (w.alloc (.cells #[.slice a 0 c, .int .i64 (k : Int), .int .i64 (m : Int), .bool op] 323)) #[.int .i64 0, .bool false] 325
 rw [World.size_alloc] at hP
 have hacc := below2 w (.cells #[.slice a 0 c, .int .i64 (k : Int), .int .i64 (m : Int), .bool op] 323) (.cells #[.int .i64 0, .bool false] 325)
 have hI := hl.below hacc
 have HN := Lib.hid hn
 clear hn HN
 have HR := Lib.hid (show moS l k 36 (m : Int) arg op = none by simp [moS, hl0])
 clear hl0
 go_enter Try.func253, Try.ntmps253
 go_wp2
 rw [HR.out]
 have hG := (hP.set 0 (.int .i64 (0))).set 1 (.bool false)
 obtain ⟨q0, q1, -, -⟩ := Blk.two hG
 refine bodyPost_ret (v := .tuple #[.agg #[.int .i64 (0), .bool false], .int .i64 5]) (by simp [results, Try.results253, go_sem, q0, q1]) rfl ⟨rfl, ?_⟩
 first | exact (hacc.setCell (p := ⟨w.heap.size + 1, 0, none⟩) (Nat.le_succ _) _).setCell (p := ⟨w.heap.size + 1, 1, none⟩) (Nat.le_succ _) _ | exact below2 _ _ _
set_option maxRecDepth 100000 in
set_option maxHeartbeats 1000000 in
theorem plain_nil_124 (a : Option Addr) (n c : Nat) (l : List Int) (k m : Nat) (op : Bool) (w : World) (hl : Ints w a l) (hn : l.length = n) (hn2 : n ≤ 4096) (hk : k ≤ n) (hk2 : k < n ∨ n = 0) (hm0 : 1 ≤ m) (hm : m ≤ 999) (arg : Int) (h0 : n = 0) (hl0 : l.length = 0) :
  Calls Try.prog 253 #[goV a n c k (m : Int) op, .int .i64 124] w (MoPost (moS l k 124 (m : Int) arg op) w) := by
 subst h0
 unfold goV
 have hB := (Blk.new w #[.slice a 0 c, .int .i64 (k : Int), .int .i64 (m : Int), .bool op] 323).alloc (.cells #[.int .i64 0, .bool false] 325)
 obtain ⟨c0, c1, c2, c3⟩ := hB.four
 have hP := Blk.new (w.alloc (.cells #[.slice a 0 c, .int .i64 (k : Int), .int .i64 (m : Int), .bool op] 323)) #[.int .i64 0, .bool false] 325
 rw [World.size_alloc] at hP
 have hacc := below2 w (.cells #[.slice a 0 c, .int .i64 (k : Int), .int .i64 (m : Int), .bool op] 323) (.cells #[.int .i64 0, .bool false] 325)
 have hI := hl.below hacc
 have HN := Lib.hid hn
 clear hn HN
 have HR := Lib.hid (show moS l k 124 (m : Int) arg op = none by simp [moS, hl0])
 clear hl0
 go_enter Try.func253, Try.ntmps253
 go_wp2
 rw [HR.out]
 have hG := (hP.set 0 (.int .i64 (0))).set 1 (.bool false)
 obtain ⟨q0, q1, -, -⟩ := Blk.two hG
 refine bodyPost_ret (v := .tuple #[.agg #[.int .i64 (0), .bool false], .int .i64 5]) (by simp [results, Try.results253, go_sem, q0, q1]) rfl ⟨rfl, ?_⟩
 first | exact (hacc.setCell (p := ⟨w.heap.size + 1, 0, none⟩) (Nat.le_succ _) _).setCell (p := ⟨w.heap.size + 1, 1, none⟩) (Nat.le_succ _) _ | exact below2 _ _ _
set_option maxRecDepth 100000 in
set_option maxHeartbeats 1000000 in
theorem plain_nil_119 (a : Option Addr) (n c : Nat) (l : List Int) (k m : Nat) (op : Bool) (w : World) (hl : Ints w a l) (hn : l.length = n) (hn2 : n ≤ 4096) (hk : k ≤ n) (hk2 : k < n ∨ n = 0) (hm0 : 1 ≤ m) (hm : m ≤ 999) (arg : Int) (h0 : n = 0) (hl0 : l.length = 0) :
  Calls Try.prog 253 #[goV a n c k (m : Int) op, .int .i64 119] w (MoPost (moS l k 119 (m : Int) arg op) w) := by
 subst h0
 unfold goV
 have hB := (Blk.new w #[.slice a 0 c, .int .i64 (k : Int), .int .i64 (m : Int), .bool op] 323).alloc (.cells #[.int .i64 0, .bool false] 325)
 obtain ⟨c0, c1, c2, c3⟩ := hB.four
 have hP := Blk.new (w.alloc (.cells #[.slice a 0 c, .int .i64 (k : Int), .int .i64 (m : Int), .bool op] 323)) #[.int .i64 0, .bool false] 325
 rw [World.size_alloc] at hP
 have hacc := below2 w (.cells #[.slice a 0 c, .int .i64 (k : Int), .int .i64 (m : Int), .bool op] 323) (.cells #[.int .i64 0, .bool false] 325)
 have hI := hl.below hacc
 have HN := Lib.hid hn
 clear hn HN
 have HR := Lib.hid (show moS l k 119 (m : Int) arg op = none by simp [moS, hl0])
 clear hl0
 go_enter Try.func253, Try.ntmps253
 go_wp2
 rw [HR.out]
 have hG := (hP.set 0 (.int .i64 (0))).set 1 (.bool false)
 obtain ⟨q0, q1, -, -⟩ := Blk.two hG
 refine bodyPost_ret (v := .tuple #[.agg #[.int .i64 (0), .bool false], .int .i64 5]) (by simp [results, Try.results253, go_sem, q0, q1]) rfl ⟨rfl, ?_⟩
 first | exact (hacc.setCell (p := ⟨w.heap.size + 1, 0, none⟩) (Nat.le_succ _) _).setCell (p := ⟨w.heap.size + 1, 1, none⟩) (Nat.le_succ _) _ | exact below2 _ _ _
set_option maxRecDepth 100000 in
set_option maxHeartbeats 1000000 in
theorem plain_nil_87 (a : Option Addr) (n c : Nat) (l : List Int) (k m : Nat) (op : Bool) (w : World) (hl : Ints w a l) (hn : l.length = n) (hn2 : n ≤ 4096) (hk : k ≤ n) (hk2 : k < n ∨ n = 0) (hm0 : 1 ≤ m) (hm : m ≤ 999) (arg : Int) (h0 : n = 0) (hl0 : l.length = 0) :
  Calls Try.prog 253 #[goV a n c k (m : Int) op, .int .i64 87] w (MoPost (moS l k 87 (m : Int) arg op) w) := by
 subst h0
 unfold goV
 have hB := (Blk.new w #[.slice a 0 c, .int .i64 (k : Int), .int .i64 (m : Int), .bool op] 323).alloc (.cells #[.int .i64 0, .bool false] 325)
 obtain ⟨c0, c1, c2, c3⟩ := hB.four
 have hP := Blk.new (w.alloc (.cells #[.slice a 0 c, .int .i64 (k : Int), .int .i64 (m : Int), .bool op] 323)) #[.int .i64 0, .bool false] 325
 rw [World.size_alloc] at hP
 have hacc := below2 w (.cells #[.slice a 0 c, .int .i64 (k : Int), .int .i64 (m : Int), .bool op] 323) (.cells #[.int .i64 0, .bool false] 325)
 have hI := hl.below hacc
 have HN := Lib.hid hn
 clear hn HN
 have HR := Lib.hid (show moS l k 87 (m : Int) arg op = none by simp [moS, hl0])
 clear hl0
 go_enter Try.func253, Try.ntmps253
 go_wp2
 rw [HR.out]
 have hG := (hP.set 0 (.int .i64 (0))).set 1 (.bool false)
 obtain ⟨q0, q1, -, -⟩ := Blk.two hG
 refine bodyPost_ret (v := .tuple #[.agg #[.int .i64 (0), .bool false], .int .i64 5]) (by simp [results, Try.results253, go_sem, q0, q1]) rfl ⟨rfl, ?_⟩
 first | exact (hacc.setCell (p := ⟨w.heap.size + 1, 0, none⟩) (Nat.le_succ _) _).setCell (p := ⟨w.heap.size + 1, 1, none⟩) (Nat.le_succ _) _ | exact below2 _ _ _
set_option maxRecDepth 100000 in
set_option maxHeartbeats 1000000 in
theorem plain_nil_101 (a : Option Addr) (n c : Nat) (l : List Int) (k m : Nat) (op : Bool) (w : World) (hl : Ints w a l) (hn : l.length = n) (hn2 : n ≤ 4096) (hk : k ≤ n) (hk2 : k < n ∨ n = 0) (hm0 : 1 ≤ m) (hm : m ≤ 999) (arg : Int) (h0 : n = 0) (hl0 : l.length = 0) :
  Calls Try.prog 253 #[goV a n c k (m : Int) op, .int .i64 101] w (MoPost (moS l k 101 (m : Int) arg op) w) := by
 subst h0
 unfold goV
 have hB := (Blk.new w #[.slice a 0 c, .int .i64 (k : Int), .int .i64 (m : Int), .bool op] 323).alloc (.cells #[.int .i64 0, .bool false] 325)
 obtain ⟨c0, c1, c2, c3⟩ := hB.four
 have hP := Blk.new (w.alloc (.cells #[.slice a 0 c, .int .i64 (k : Int), .int .i64 (m : Int), .bool op] 323)) #[.int .i64 0, .bool false] 325
 rw [World.size_alloc] at hP
 have hacc := below2 w (.cells #[.slice a 0 c, .int .i64 (k : Int), .int .i64 (m : Int), .bool op] 323) (.cells #[.int .i64 0, .bool false] 325)
 have hI := hl.below hacc
 have HN := Lib.hid hn
 clear hn HN
 have HR := Lib.hid (show moS l k 101 (m : Int) arg op = none by simp [moS, hl0])
 clear hl0
 go_enter Try.func253, Try.ntmps253
 go_wp2
 rw [HR.out]
 have hG := (hP.set 0 (.int .i64 (0))).set 1 (.bool false)
 obtain ⟨q0, q1, -, -⟩ := Blk.two hG
 refine bodyPost_ret (v := .tuple #[.agg #[.int .i64 (0), .bool false], .int .i64 5]) (by simp [results, Try.results253, go_sem, q0, q1]) rfl ⟨rfl, ?_⟩
 first | exact (hacc.setCell (p := ⟨w.heap.size + 1, 0, none⟩) (Nat.le_succ _) _).setCell (p := ⟨w.heap.size + 1, 1, none⟩) (Nat.le_succ _) _ | exact below2 _ _ _
set_option maxRecDepth 100000 in
set_option maxHeartbeats 1000000 in
theorem plain_nil_69 (a : Option Addr) (n c : Nat) (l : List Int) (k m : Nat) (op : Bool) (w : World) (hl : Ints w a l) (hn : l.length = n) (hn2 : n ≤ 4096) (hk : k ≤ n) (hk2 : k < n ∨ n = 0) (hm0 : 1 ≤ m) (hm : m ≤ 999) (arg : Int) (h0 : n = 0) (hl0 : l.length = 0) :
  Calls Try.prog 253 #[goV a n c k (m : Int) op, .int .i64 69] w (MoPost (moS l k 69 (m : Int) arg op) w) := by
 subst h0
 unfold goV
 have hB := (Blk.new w #[.slice a 0 c, .int .i64 (k : Int), .int .i64 (m : Int), .bool op] 323).alloc (.cells #[.int .i64 0, .bool false] 325)
 obtain ⟨c0, c1, c2, c3⟩ := hB.four
 have hP := Blk.new (w.alloc (.cells #[.slice a 0 c, .int .i64 (k : Int), .int .i64 (m : Int), .bool op] 323)) #[.int .i64 0, .bool false] 325
 rw [World.size_alloc] at hP
 have hacc := below2 w (.cells #[.slice a 0 c, .int .i64 (k : Int), .int .i64 (m : Int), .bool op] 323) (.cells #[.int .i64 0, .bool false] 325)
 have hI := hl.below hacc
 have HN := Lib.hid hn
 clear hn HN
 have HR := Lib.hid (show moS l k 69 (m : Int) arg op = none by simp [moS, hl0])
 clear hl0
 go_enter Try.func253, Try.ntmps253
 go_wp2
 rw [HR.out]
 have hG := (hP.set 0 (.int .i64 (0))).set 1 (.bool false)
 obtain ⟨q0, q1, -, -⟩ := Blk.two hG
 refine bodyPost_ret (v := .tuple #[.agg #[.int .i64 (0), .bool false], .int .i64 5]) (by simp [results, Try.results253, go_sem, q0, q1]) rfl ⟨rfl, ?_⟩
 first | exact (hacc.setCell (p := ⟨w.heap.size + 1, 0, none⟩) (Nat.le_succ _) _).setCell (p := ⟨w.heap.size + 1, 1, none⟩) (Nat.le_succ _) _ | exact below2 _ _ _
set_option maxRecDepth 100000 in
set_option maxHeartbeats 1000000 in
theorem plain_nil_37 (a : Option Addr) (n c : Nat) (l : List Int) (k m : Nat) (op : Bool) (w : World) (hl : Ints w a l) (hn : l.length = n) (hn2 : n ≤ 4096) (hk : k ≤ n) (hk2 : k < n ∨ n = 0) (hm0 : 1 ≤ m) (hm : m ≤ 999) (arg : Int) (h0 : n = 0) (hl0 : l.length = 0) :
  Calls Try.prog 253 #[goV a n c k (m : Int) op, .int .i64 37] w (MoPost (moS l k 37 (m : Int) arg op) w) := by
 subst h0
 unfold goV
 have hB := (Blk.new w #[.slice a 0 c, .int .i64 (k : Int), .int .i64 (m : Int), .bool op] 323).alloc (.cells #[.int .i64 0, .bool false] 325)
 obtain ⟨c0, c1, c2, c3⟩ := hB.four
 have hP := Blk.new (w.alloc (.cells #[.slice a 0 c, .int .i64 (k : Int), .int .i64 (m : Int), .bool op] 323)) #[.int .i64 0, .bool false] 325
 rw [World.size_alloc] at hP
 have hacc := below2 w (.cells #[.slice a 0 c, .int .i64 (k : Int), .int .i64 (m : Int), .bool op] 323) (.cells #[.int .i64 0, .bool false] 325)
 have hI := hl.below hacc
 have HN := Lib.hid hn
 clear hn HN
 have HR := Lib.hid (show moS l k 37 (m : Int) arg op = none by simp [moS, hl0])
 clear hl0
 go_enter Try.func253, Try.ntmps253
 go_wp2
 rw [HR.out]
 have hG := (hP.set 0 (.int .i64 (0))).set 1 (.bool false)
 obtain ⟨q0, q1, -, -⟩ := Blk.two hG
 refine bodyPost_ret (v := .tuple #[.agg #[.int .i64 (0), .bool false], .int .i64 5]) (by simp [results, Try.results253, go_sem, q0, q1]) rfl ⟨rfl, ?_⟩
 first | exact (hacc.setCell (p := ⟨w.heap.size + 1, 0, none⟩) (Nat.le_succ _) _).setCell (p := ⟨w.heap.size + 1, 1, none⟩) (Nat.le_succ _) _ | exact below2 _ _ _
set_option maxRecDepth 100000 in
set_option maxHeartbeats 1000000 in
theorem plain_36 (a : Option Addr) (n c : Nat) (l : List Int) (k m : Nat) (op : Bool) (w : World) (hl : Ints w a l) (hn : l.length = n) (hn2 : n ≤ 4096) (hk : k ≤ n) (hk2 : k < n ∨ n = 0) (hm0 : 1 ≤ m) (hm : m ≤ 999) (arg : Int) (h0 : 1 ≤ n) (hl0 : l.length ≠ 0) :
  Calls Try.prog 253 #[goV a n c k (m : Int) op, .int .i64 36] w (MoPost (moS l k 36 (m : Int) arg op) w) := by
 unfold goV
 have hB := (Blk.new w #[.slice a n c, .int .i64 (k : Int), .int .i64 (m : Int), .bool op] 323).alloc (.cells #[.int .i64 0, .bool false] 325)
 obtain ⟨c0, c1, c2, c3⟩ := hB.four
 have hP := Blk.new (w.alloc (.cells #[.slice a n c, .int .i64 (k : Int), .int .i64 (m : Int), .bool op] 323)) #[.int .i64 0, .bool false] 325
 rw [World.size_alloc] at hP
 have hacc := below2 w (.cells #[.slice a n c, .int .i64 (k : Int), .int .i64 (m : Int), .bool op] 323) (.cells #[.int .i64 0, .bool false] 325)
 have hI := hl.below hacc
 have HN := Lib.hid hn
 have h0' : ((n : Int) == 0) = false := by simp; omega
 have hln : ((l.length : Nat) : Int) = (n : Int) := by omega
 have HR := Lib.hid (show moS l k 36 (m : Int) arg op = some ((n : Int) - 1, true) by simp [moS, hl0, hln])
 clear hn hln hl0
 go_enter Try.func253, Try.ntmps253
 go_wp2
 rw [HR.out]
 have hG := (hP.set 0 (.int .i64 ((n : Int) - 1))).set 1 (.bool true)
 obtain ⟨q0, q1, -, -⟩ := Blk.two hG
 refine bodyPost_ret (v := .tuple #[.agg #[.int .i64 ((n : Int) - 1), .bool true], .int .i64 0]) (by simp [results, Try.results253, go_sem, q0, q1]) rfl ⟨rfl, ?_⟩
 first | exact (hacc.setCell (p := ⟨w.heap.size + 1, 0, none⟩) (Nat.le_succ _) _).setCell (p := ⟨w.heap.size + 1, 1, none⟩) (Nat.le_succ _) _ | exact below2 _ _ _
set_option maxRecDepth 100000 in
set_option maxHeartbeats 1000000 in
theorem plain_124 (a : Option Addr) (n c : Nat) (l : List Int) (k m : Nat) (op : Bool) (w : World) (hl : Ints w a l) (hn : l.length = n) (hn2 : n ≤ 4096) (hk : k ≤ n) (hk2 : k < n ∨ n = 0) (hm0 : 1 ≤ m) (hm : m ≤ 999) (arg : Int) (h0 : 1 ≤ n) (hl0 : l.length ≠ 0) :
  Calls Try.prog 253 #[goV a n c k (m : Int) op, .int .i64 124] w (MoPost (moS l k 124 (m : Int) arg op) w) := by
 unfold goV
 have hB := (Blk.new w #[.slice a n c, .int .i64 (k : Int), .int .i64 (m : Int), .bool op] 323).alloc (.cells #[.int .i64 0, .bool false] 325)
 obtain ⟨c0, c1, c2, c3⟩ := hB.four
 have hP := Blk.new (w.alloc (.cells #[.slice a n c, .int .i64 (k : Int), .int .i64 (m : Int), .bool op] 323)) #[.int .i64 0, .bool false] 325
 rw [World.size_alloc] at hP
 have hacc := below2 w (.cells #[.slice a n c, .int .i64 (k : Int), .int .i64 (m : Int), .bool op] 323) (.cells #[.int .i64 0, .bool false] 325)
 have hI := hl.below hacc
 have HN := Lib.hid hn
 have h0' : ((n : Int) == 0) = false := by simp; omega
 have hln : ((l.length : Nat) : Int) = (n : Int) := by omega
 rcases (show m ≤ n ∨ n < m by omega) with h1 | h1
 ·have HM := Lib.hid (show min (m : Int) (n : Int) - 1 = (m : Int) - 1 by omega)
  have HR := Lib.hid (show moS l k 124 (m : Int) arg op = some (min (m : Int) (n : Int) - 1, false) by simp [moS, hl0, hln])
  clear hn hln hl0
  go_enter Try.func253, Try.ntmps253
  go_wp2
  rw [HR.out, HM.out]
  have hG := (hP.set 0 (.int .i64 ((m : Int) - 1))).set 1 (.bool false)
  obtain ⟨q0, q1, -, -⟩ := Blk.two hG
  refine bodyPost_ret (v := .tuple #[.agg #[.int .i64 ((m : Int) - 1), .bool false], .int .i64 0]) (by simp [results, Try.results253, go_sem, q0, q1]) rfl ⟨rfl, ?_⟩
  first | exact (hacc.setCell (p := ⟨w.heap.size + 1, 0, none⟩) (Nat.le_succ _) _).setCell (p := ⟨w.heap.size + 1, 1, none⟩) (Nat.le_succ _) _ | exact below2 _ _ _
 ·have HM := Lib.hid (show min (m : Int) (n : Int) - 1 = (n : Int) - 1 by omega)
  have HR := Lib.hid (show moS l k 124 (m : Int) arg op = some (min (m : Int) (n : Int) - 1, false) by simp [moS, hl0, hln])
  clear hn hln hl0
  go_enter Try.func253, Try.ntmps253
  go_wp2
  rw [HR.out, HM.out]
  have hG := (hP.set 0 (.int .i64 ((n : Int) - 1))).set 1 (.bool false)
  obtain ⟨q0, q1, -, -⟩ := Blk.two hG
  refine bodyPost_ret (v := .tuple #[.agg #[.int .i64 ((n : Int) - 1), .bool false], .int .i64 0]) (by simp [results, Try.results253, go_sem, q0, q1]) rfl ⟨rfl, ?_⟩
  first | exact (hacc.setCell (p := ⟨w.heap.size + 1, 0, none⟩) (Nat.le_succ _) _).setCell (p := ⟨w.heap.size + 1, 1, none⟩) (Nat.le_succ _) _ | exact below2 _ _ _
set_option maxRecDepth 100000 in
set_option maxHeartbeats 1000000 in
theorem plain_119 (a : Option Addr) (n c : Nat) (l : List Int) (k m : Nat) (op : Bool) (w : World) (hl : Ints w a l) (hn : l.length = n) (hn2 : n ≤ 4096) (hk : k ≤ n) (hk2 : k < n ∨ n = 0) (hm0 : 1 ≤ m) (hm : m ≤ 999) (arg : Int) (h0 : 1 ≤ n) (hl0 : l.length ≠ 0) :
  Calls Try.prog 253 #[goV a n c k (m : Int) op, .int .i64 119] w (MoPost (moS l k 119 (m : Int) arg op) w) := by
 unfold goV
 have hB := (Blk.new w #[.slice a n c, .int .i64 (k : Int), .int .i64 (m : Int), .bool op] 323).alloc (.cells #[.int .i64 0, .bool false] 325)
 obtain ⟨c0, c1, c2, c3⟩ := hB.four
 have hP := Blk.new (w.alloc (.cells #[.slice a n c, .int .i64 (k : Int), .int .i64 (m : Int), .bool op] 323)) #[.int .i64 0, .bool false] 325
 rw [World.size_alloc] at hP
 have hacc := below2 w (.cells #[.slice a n c, .int .i64 (k : Int), .int .i64 (m : Int), .bool op] 323) (.cells #[.int .i64 0, .bool false] 325)
 have hI := hl.below hacc
 have HN := Lib.hid hn
 have h0' : ((n : Int) == 0) = false := by simp; omega
 have HR := Lib.hid (show moS l k 119 (m : Int) arg op = wordsS l k m op false by
  unfold moS wordsS
  simp only [Int.toNat_natCast]
  rw [if_neg (by decide), if_neg (by decide), if_neg (by decide), if_neg (by decide), if_neg (by decide), if_neg (by decide), if_neg (by decide), if_neg hl0, if_neg (by decide), if_neg (by decide)]
  first | (rw [if_pos (by decide)]; rfl) | (rw [if_neg (by decide), if_pos (by decide)]; rfl))
 clear hn hl0
 obtain ⟨r, hr⟩ : ∃ r, wordsS l k m op false = r := ⟨_, rfl⟩
 have HR2 := Lib.hid hr; clear hr
 go_enter Try.func253, Try.ntmps253
 go_wp2_with ((go_at_call 272); refine (goer_words a n c l k m op false _ hI HN.out hn2 hk h0 (by omega)).mono ?_; rintro e w2 ⟨rfl, hb2⟩; rw [HR2.out]; have hB2 := hB.below hb2 hB.lt; obtain ⟨d0, d1, d2, d3⟩ := hB2.four; have hP2 := hP.below hb2 hP.lt; obtain ⟨s0, s1, s2, s3⟩ := hP2.two; have hacc2 := below_then hacc (by simp; omega) hb2)
 rw [HR.out, HR2.out]
 have hG := (hP2.set 0 (.int .i64 (moA r))).set 1 (.bool (moTh r))
 obtain ⟨q0, q1, -, -⟩ := Blk.two hG
 refine bodyPost_ret (v := .tuple #[.agg #[.int .i64 (moA r), .bool (moTh r)], .int .i64 (moE r)]) (by simp [results, Try.results253, go_sem, q0, q1]) rfl ⟨rfl, ?_⟩
 first | exact (hacc2.setCell (p := ⟨w.heap.size + 1, 0, none⟩) (Nat.le_succ _) _).setCell (p := ⟨w.heap.size + 1, 1, none⟩) (Nat.le_succ _) _ | exact below2 _ _ _
set_option maxRecDepth 100000 in
set_option maxHeartbeats 1000000 in
theorem plain_87 (a : Option Addr) (n c : Nat) (l : List Int) (k m : Nat) (op : Bool) (w : World) (hl : Ints w a l) (hn : l.length = n) (hn2 : n ≤ 4096) (hk : k ≤ n) (hk2 : k < n ∨ n = 0) (hm0 : 1 ≤ m) (hm : m ≤ 999) (arg : Int) (h0 : 1 ≤ n) (hl0 : l.length ≠ 0) :
  Calls Try.prog 253 #[goV a n c k (m : Int) op, .int .i64 87] w (MoPost (moS l k 87 (m : Int) arg op) w) := by
 unfold goV
 have hB := (Blk.new w #[.slice a n c, .int .i64 (k : Int), .int .i64 (m : Int), .bool op] 323).alloc (.cells #[.int .i64 0, .bool false] 325)
 obtain ⟨c0, c1, c2, c3⟩ := hB.four
 have hP := Blk.new (w.alloc (.cells #[.slice a n c, .int .i64 (k : Int), .int .i64 (m : Int), .bool op] 323)) #[.int .i64 0, .bool false] 325
 rw [World.size_alloc] at hP
 have hacc := below2 w (.cells #[.slice a n c, .int .i64 (k : Int), .int .i64 (m : Int), .bool op] 323) (.cells #[.int .i64 0, .bool false] 325)
 have hI := hl.below hacc
 have HN := Lib.hid hn
 have h0' : ((n : Int) == 0) = false := by simp; omega
 have HR := Lib.hid (show moS l k 87 (m : Int) arg op = wordsS l k m op true by
  unfold moS wordsS
  simp only [Int.toNat_natCast]
  rw [if_neg (by decide), if_neg (by decide), if_neg (by decide), if_neg (by decide), if_neg (by decide), if_neg (by decide), if_neg (by decide), if_neg hl0, if_neg (by decide), if_neg (by decide)]
  first | (rw [if_pos (by decide)]; rfl) | (rw [if_neg (by decide), if_pos (by decide)]; rfl))
 clear hn hl0
 obtain ⟨r, hr⟩ : ∃ r, wordsS l k m op true = r := ⟨_, rfl⟩
 have HR2 := Lib.hid hr; clear hr
 go_enter Try.func253, Try.ntmps253
 go_wp2_with ((go_at_call 272); refine (goer_words a n c l k m op true _ hI HN.out hn2 hk h0 (by omega)).mono ?_; rintro e w2 ⟨rfl, hb2⟩; rw [HR2.out]; have hB2 := hB.below hb2 hB.lt; obtain ⟨d0, d1, d2, d3⟩ := hB2.four; have hP2 := hP.below hb2 hP.lt; obtain ⟨s0, s1, s2, s3⟩ := hP2.two; have hacc2 := below_then hacc (by simp; omega) hb2)
 rw [HR.out, HR2.out]
 have hG := (hP2.set 0 (.int .i64 (moA r))).set 1 (.bool (moTh r))
 obtain ⟨q0, q1, -, -⟩ := Blk.two hG
 refine bodyPost_ret (v := .tuple #[.agg #[.int .i64 (moA r), .bool (moTh r)], .int .i64 (moE r)]) (by simp [results, Try.results253, go_sem, q0, q1]) rfl ⟨rfl, ?_⟩
 first | exact (hacc2.setCell (p := ⟨w.heap.size + 1, 0, none⟩) (Nat.le_succ _) _).setCell (p := ⟨w.heap.size + 1, 1, none⟩) (Nat.le_succ _) _ | exact below2 _ _ _
set_option maxRecDepth 100000 in
set_option maxHeartbeats 1000000 in
theorem plain_101 (a : Option Addr) (n c : Nat) (l : List Int) (k m : Nat) (op : Bool) (w : World) (hl : Ints w a l) (hn : l.length = n) (hn2 : n ≤ 4096) (hk : k ≤ n) (hk2 : k < n ∨ n = 0) (hm0 : 1 ≤ m) (hm : m ≤ 999) (arg : Int) (h0 : 1 ≤ n) (hl0 : l.length ≠ 0) :
  Calls Try.prog 253 #[goV a n c k (m : Int) op, .int .i64 101] w (MoPost (moS l k 101 (m : Int) arg op) w) := by
 unfold goV
 have hB := (Blk.new w #[.slice a n c, .int .i64 (k : Int), .int .i64 (m : Int), .bool op] 323).alloc (.cells #[.int .i64 0, .bool false] 325)
 obtain ⟨c0, c1, c2, c3⟩ := hB.four
 have hP := Blk.new (w.alloc (.cells #[.slice a n c, .int .i64 (k : Int), .int .i64 (m : Int), .bool op] 323)) #[.int .i64 0, .bool false] 325
 rw [World.size_alloc] at hP
 have hacc := below2 w (.cells #[.slice a n c, .int .i64 (k : Int), .int .i64 (m : Int), .bool op] 323) (.cells #[.int .i64 0, .bool false] 325)
 have hI := hl.below hacc
 have HN := Lib.hid hn
 have h0' : ((n : Int) == 0) = false := by simp; omega
 have HR := Lib.hid (show moS l k 101 (m : Int) arg op = endsS l k m op false by
  unfold moS endsS
  simp only [Int.toNat_natCast]
  rw [if_neg (by decide), if_neg (by decide), if_neg (by decide), if_neg (by decide), if_neg (by decide), if_neg (by decide), if_neg (by decide), if_neg hl0, if_neg (by decide), if_neg (by decide)]
  first | (rw [if_pos (by decide)]; rfl) | (rw [if_neg (by decide), if_pos (by decide)]; rfl))
 clear hn hl0
 obtain ⟨r, hr⟩ : ∃ r, endsS l k m op false = r := ⟨_, rfl⟩
 have HR2 := Lib.hid hr; clear hr
 go_enter Try.func253, Try.ntmps253
 go_wp2_with ((go_at_call 273); refine (goer_ends a n c l k m op false _ hI HN.out hn2 hk h0 (by omega)).mono ?_; rintro e w2 ⟨rfl, hb2⟩; rw [HR2.out]; have hB2 := hB.below hb2 hB.lt; obtain ⟨d0, d1, d2, d3⟩ := hB2.four; have hP2 := hP.below hb2 hP.lt; obtain ⟨s0, s1, s2, s3⟩ := hP2.two; have hacc2 := below_then hacc (by simp; omega) hb2)
 rw [HR.out, HR2.out]
 have hG := (hP2.set 0 (.int .i64 (moA r))).set 1 (.bool (moTh r))
 obtain ⟨q0, q1, -, -⟩ := Blk.two hG
 refine bodyPost_ret (v := .tuple #[.agg #[.int .i64 (moA r), .bool (moTh r)], .int .i64 (moE r)]) (by simp [results, Try.results253, go_sem, q0, q1]) rfl ⟨rfl, ?_⟩
 first | exact (hacc2.setCell (p := ⟨w.heap.size + 1, 0, none⟩) (Nat.le_succ _) _).setCell (p := ⟨w.heap.size + 1, 1, none⟩) (Nat.le_succ _) _ | exact below2 _ _ _
set_option maxRecDepth 100000 in
set_option maxHeartbeats 1000000 in
theorem plain_69 (a : Option Addr) (n c : Nat) (l : List Int) (k m : Nat) (op : Bool) (w : World) (hl : Ints w a l) (hn : l.length = n) (hn2 : n ≤ 4096) (hk : k ≤ n) (hk2 : k < n ∨ n = 0) (hm0 : 1 ≤ m) (hm : m ≤ 999) (arg : Int) (h0 : 1 ≤ n) (hl0 : l.length ≠ 0) :
  Calls Try.prog 253 #[goV a n c k (m : Int) op, .int .i64 69] w (MoPost (moS l k 69 (m : Int) arg op) w) := by
 unfold goV
 have hB := (Blk.new w #[.slice a n c, .int .i64 (k : Int), .int .i64 (m : Int), .bool op] 323).alloc (.cells #[.int .i64 0, .bool false] 325)
 obtain ⟨c0, c1, c2, c3⟩ := hB.four
 have hP := Blk.new (w.alloc (.cells #[.slice a n c, .int .i64 (k : Int), .int .i64 (m : Int), .bool op] 323)) #[.int .i64 0, .bool false] 325
 rw [World.size_alloc] at hP
 have hacc := below2 w (.cells #[.slice a n c, .int .i64 (k : Int), .int .i64 (m : Int), .bool op] 323) (.cells #[.int .i64 0, .bool false] 325)
 have hI := hl.below hacc
 have HN := Lib.hid hn
 have h0' : ((n : Int) == 0) = false := by simp; omega
 have HR := Lib.hid (show moS l k 69 (m : Int) arg op = endsS l k m op true by
  unfold moS endsS
  simp only [Int.toNat_natCast]
  rw [if_neg (by decide), if_neg (by decide), if_neg (by decide), if_neg (by decide), if_neg (by decide), if_neg (by decide), if_neg (by decide), if_neg hl0, if_neg (by decide), if_neg (by decide)]
  first | (rw [if_pos (by decide)]; rfl) | (rw [if_neg (by decide), if_pos (by decide)]; rfl))
 clear hn hl0
 obtain ⟨r, hr⟩ : ∃ r, endsS l k m op true = r := ⟨_, rfl⟩
 have HR2 := Lib.hid hr; clear hr
 go_enter Try.func253, Try.ntmps253
 go_wp2_with ((go_at_call 273); refine (goer_ends a n c l k m op true _ hI HN.out hn2 hk h0 (by omega)).mono ?_; rintro e w2 ⟨rfl, hb2⟩; rw [HR2.out]; have hB2 := hB.below hb2 hB.lt; obtain ⟨d0, d1, d2, d3⟩ := hB2.four; have hP2 := hP.below hb2 hP.lt; obtain ⟨s0, s1, s2, s3⟩ := hP2.two; have hacc2 := below_then hacc (by simp; omega) hb2)
 rw [HR.out, HR2.out]
 have hG := (hP2.set 0 (.int .i64 (moA r))).set 1 (.bool (moTh r))
 obtain ⟨q0, q1, -, -⟩ := Blk.two hG
 refine bodyPost_ret (v := .tuple #[.agg #[.int .i64 (moA r), .bool (moTh r)], .int .i64 (moE r)]) (by simp [results, Try.results253, go_sem, q0, q1]) rfl ⟨rfl, ?_⟩
 first | exact (hacc2.setCell (p := ⟨w.heap.size + 1, 0, none⟩) (Nat.le_succ _) _).setCell (p := ⟨w.heap.size + 1, 1, none⟩) (Nat.le_succ _) _ | exact below2 _ _ _
set_option maxRecDepth 100000 in
set_option maxHeartbeats 1000000 in
theorem plain_37 (a : Option Addr) (n c : Nat) (l : List Int) (k m : Nat) (op : Bool) (w : World) (hl : Ints w a l) (hn : l.length = n) (hn2 : n ≤ 4096) (hk : k ≤ n) (hk2 : k < n ∨ n = 0) (hm0 : 1 ≤ m) (hm : m ≤ 999) (arg : Int) (h0 : 1 ≤ n) (hl0 : l.length ≠ 0) :
  Calls Try.prog 253 #[goV a n c k (m : Int) op, .int .i64 37] w (MoPost (moS l k 37 (m : Int) arg op) w) := by
 unfold goV
 have hB := (Blk.new w #[.slice a n c, .int .i64 (k : Int), .int .i64 (m : Int), .bool op] 323).alloc (.cells #[.int .i64 0, .bool false] 325)
 obtain ⟨c0, c1, c2, c3⟩ := hB.four
 have hP := Blk.new (w.alloc (.cells #[.slice a n c, .int .i64 (k : Int), .int .i64 (m : Int), .bool op] 323)) #[.int .i64 0, .bool false] 325
 rw [World.size_alloc] at hP
 have hacc := below2 w (.cells #[.slice a n c, .int .i64 (k : Int), .int .i64 (m : Int), .bool op] 323) (.cells #[.int .i64 0, .bool false] 325)
 have hI := hl.below hacc
 have HN := Lib.hid hn
 have h0' : ((n : Int) == 0) = false := by simp; omega
 have HR := Lib.hid (show moS l k 37 (m : Int) arg op = partS l k by
  unfold moS partS
  rw [if_neg (by decide), if_neg (by decide), if_neg (by decide), if_neg (by decide), if_neg (by decide), if_neg (by decide), if_neg (by decide), if_neg hl0, if_neg (by decide), if_neg (by decide), if_neg (by decide), if_neg (by decide)])
 clear hn hl0
 obtain ⟨r, hr⟩ : ∃ r, partS l k = r := ⟨_, rfl⟩
 have HR2 := Lib.hid hr; clear hr
 go_enter Try.func253, Try.ntmps253
 go_wp2_with ((go_at_call 274); refine (goer_partner a n c l k m op _ hI HN.out hn2 hk).mono ?_; rintro e w2 ⟨rfl, hb2⟩; rw [HR2.out]; have hB2 := hB.below hb2 hB.lt; obtain ⟨d0, d1, d2, d3⟩ := hB2.four; have hP2 := hP.below hb2 hP.lt; obtain ⟨s0, s1, s2, s3⟩ := hP2.two; have hacc2 := below_then hacc (by simp; omega) hb2)
 rw [HR.out, HR2.out]
 have hG := (hP2.set 0 (.int .i64 (moA r))).set 1 (.bool (moTh r))
 obtain ⟨q0, q1, -, -⟩ := Blk.two hG
 refine bodyPost_ret (v := .tuple #[.agg #[.int .i64 (moA r), .bool (moTh r)], .int .i64 (moE r)]) (by simp [results, Try.results253, go_sem, q0, q1]) rfl ⟨rfl, ?_⟩
 first | exact (hacc2.setCell (p := ⟨w.heap.size + 1, 0, none⟩) (Nat.le_succ _) _).setCell (p := ⟨w.heap.size + 1, 1, none⟩) (Nat.le_succ _) _ | exact below2 _ _ _
set_option maxRecDepth 100000 in
set_option maxHeartbeats 1000000 in
theorem found_102 (a : Option Addr) (n c : Nat) (l : List Int) (k m : Nat) (op : Bool) (w : World) (hl : Ints w a l) (hn : l.length = n) (hn2 : n ≤ 4096) (hk : k ≤ n) (hk2 : k < n ∨ n = 0) (hm0 : 1 ≤ m) (hm : m ≤ 999) (arg : Int) :
  Calls Try.prog 252 #[goV a n c k (m : Int) op, .int .i64 102, .int .i64 arg] w (MoPost (moS l k 102 (m : Int) arg op) w) := by
 unfold goV
 have hB := (Blk.new w #[.slice a n c, .int .i64 (k : Int), .int .i64 (m : Int), .bool op] 323).alloc (.cells #[.int .i64 0, .bool false] 325)
 obtain ⟨c0, c1, c2, c3⟩ := hB.four
 have hP := Blk.new (w.alloc (.cells #[.slice a n c, .int .i64 (k : Int), .int .i64 (m : Int), .bool op] 323)) #[.int .i64 0, .bool false] 325
 rw [World.size_alloc] at hP
 have hacc := below2 w (.cells #[.slice a n c, .int .i64 (k : Int), .int .i64 (m : Int), .bool op] 323) (.cells #[.int .i64 0, .bool false] 325)
 have hI := hl.below hacc
 have HN := Lib.hid hn
 have HB := Lib.hid (show ∀ x, (placesR l k arg)[m - 1]? = some x → 0 ≤ x ∧ x ≤ n from fun x hx => by
  have hx := List.mem_of_getElem? hx
  have := plU_in _ _ _ _ x hx; omega)
 obtain ⟨r, hr⟩ : ∃ r, (placesR l k arg)[m - 1]? = r := ⟨_, rfl⟩
 have HR2 := Lib.hid hr
 have HR := Lib.hid (show moS l k 102 (m : Int) arg op = (match (placesR l k arg)[m - 1]? with | some x => some (x, true) | none => none) by simp [moS]; cases (placesR l k arg)[m - 1]? <;> rfl)
 rw [HR2.out] at HR
 have hbx := HB.out
 rw [hr] at hbx
 clear hn hr HB
 rcases r with _ | x
 ·have HR3 := Lib.hid (show moS l k 102 (m : Int) arg op = none from HR.out)
  clear hbx
  go_enter Try.func252, Try.ntmps252
  go_wp2_with ((go_at_call 267); refine (goer_find_up a n c l k m op arg _ hI HN.out hn2 hk hm0 (by omega)).mono ?_; rintro e w2 ⟨rfl, hb2⟩; rw [HR2.out]; have hB2 := hB.below hb2 hB.lt; obtain ⟨d0, d1, d2, d3⟩ := hB2.four; have hP2 := hP.below hb2 hP.lt; obtain ⟨s0, s1, s2, s3⟩ := hP2.two; have hacc2 := below_then hacc (by simp; omega) hb2; have z1 : fiA none = 0 := rfl; have z2 : fiE none = 5 := rfl)
  rw [HR3.out]
  have hG := (hP2.set 0 (.int .i64 (0))).set 1 (.bool false)
  obtain ⟨q0, q1, -, -⟩ := Blk.two hG
  refine bodyPost_ret (v := .tuple #[.agg #[.int .i64 (0), .bool false], .int .i64 5]) (by simp [results, Try.results252, go_sem, q0, q1]) rfl ⟨rfl, ?_⟩
  first | exact (hacc2.setCell (p := ⟨w.heap.size + 1, 0, none⟩) (Nat.le_succ _) _).setCell (p := ⟨w.heap.size + 1, 1, none⟩) (Nat.le_succ _) _ | exact below2 _ _ _
 ·have HR3 := Lib.hid (show moS l k 102 (m : Int) arg op = some (x, true) from HR.out)
  obtain ⟨x1, x2⟩ := hbx x rfl
  clear hbx
  go_enter Try.func252, Try.ntmps252
  go_wp2_with ((go_at_call 267); refine (goer_find_up a n c l k m op arg _ hI HN.out hn2 hk hm0 (by omega)).mono ?_; rintro e w2 ⟨rfl, hb2⟩; rw [HR2.out]; have hB2 := hB.below hb2 hB.lt; obtain ⟨d0, d1, d2, d3⟩ := hB2.four; have hP2 := hP.below hb2 hP.lt; obtain ⟨s0, s1, s2, s3⟩ := hP2.two; have hacc2 := below_then hacc (by simp; omega) hb2; have z1 : fiA (some x) = x := rfl; have z2 : fiE (some x) = 0 := rfl)
  rw [HR3.out]
  have hG := (hP2.set 0 (.int .i64 (x))).set 1 (.bool true)
  obtain ⟨q0, q1, -, -⟩ := Blk.two hG
  refine bodyPost_ret (v := .tuple #[.agg #[.int .i64 (x), .bool true], .int .i64 0]) (by simp [results, Try.results252, go_sem, q0, q1]) rfl ⟨rfl, ?_⟩
  first | exact (hacc2.setCell (p := ⟨w.heap.size + 1, 0, none⟩) (Nat.le_succ _) _).setCell (p := ⟨w.heap.size + 1, 1, none⟩) (Nat.le_succ _) _ | exact below2 _ _ _
set_option maxRecDepth 100000 in
set_option maxHeartbeats 1000000 in
theorem found_116 (a : Option Addr) (n c : Nat) (l : List Int) (k m : Nat) (op : Bool) (w : World) (hl : Ints w a l) (hn : l.length = n) (hn2 : n ≤ 4096) (hk : k ≤ n) (hk2 : k < n ∨ n = 0) (hm0 : 1 ≤ m) (hm : m ≤ 999) (arg : Int) :
  Calls Try.prog 252 #[goV a n c k (m : Int) op, .int .i64 116, .int .i64 arg] w (MoPost (moS l k 116 (m : Int) arg op) w) := by
 unfold goV
 have hB := (Blk.new w #[.slice a n c, .int .i64 (k : Int), .int .i64 (m : Int), .bool op] 323).alloc (.cells #[.int .i64 0, .bool false] 325)
 obtain ⟨c0, c1, c2, c3⟩ := hB.four
 have hP := Blk.new (w.alloc (.cells #[.slice a n c, .int .i64 (k : Int), .int .i64 (m : Int), .bool op] 323)) #[.int .i64 0, .bool false] 325
 rw [World.size_alloc] at hP
 have hacc := below2 w (.cells #[.slice a n c, .int .i64 (k : Int), .int .i64 (m : Int), .bool op] 323) (.cells #[.int .i64 0, .bool false] 325)
 have hI := hl.below hacc
 have HN := Lib.hid hn
 have HB := Lib.hid (show ∀ x, (placesR l k arg)[m - 1]? = some x → 0 ≤ x ∧ x ≤ n from fun x hx => by
  have hx := List.mem_of_getElem? hx
  have := plU_in _ _ _ _ x hx; omega)
 obtain ⟨r, hr⟩ : ∃ r, (placesR l k arg)[m - 1]? = r := ⟨_, rfl⟩
 have HR2 := Lib.hid hr
 have HR := Lib.hid (show moS l k 116 (m : Int) arg op = (match (placesR l k arg)[m - 1]? with | some x => some (x - 1, true) | none => none) by simp [moS]; cases (placesR l k arg)[m - 1]? <;> rfl)
 rw [HR2.out] at HR
 have hbx := HB.out
 rw [hr] at hbx
 clear hn hr HB
 rcases r with _ | x
 ·have HR3 := Lib.hid (show moS l k 116 (m : Int) arg op = none from HR.out)
  clear hbx
  go_enter Try.func252, Try.ntmps252
  go_wp2_with ((go_at_call 267); refine (goer_find_up a n c l k m op arg _ hI HN.out hn2 hk hm0 (by omega)).mono ?_; rintro e w2 ⟨rfl, hb2⟩; rw [HR2.out]; have hB2 := hB.below hb2 hB.lt; obtain ⟨d0, d1, d2, d3⟩ := hB2.four; have hP2 := hP.below hb2 hP.lt; obtain ⟨s0, s1, s2, s3⟩ := hP2.two; have hacc2 := below_then hacc (by simp; omega) hb2; have z1 : fiA none = 0 := rfl; have z2 : fiE none = 5 := rfl)
  rw [HR3.out]
  have hG := (hP2.set 0 (.int .i64 (0))).set 1 (.bool false)
  obtain ⟨q0, q1, -, -⟩ := Blk.two hG
  refine bodyPost_ret (v := .tuple #[.agg #[.int .i64 (0), .bool false], .int .i64 5]) (by simp [results, Try.results252, go_sem, q0, q1]) rfl ⟨rfl, ?_⟩
  first | exact (hacc2.setCell (p := ⟨w.heap.size + 1, 0, none⟩) (Nat.le_succ _) _).setCell (p := ⟨w.heap.size + 1, 1, none⟩) (Nat.le_succ _) _ | exact below2 _ _ _
 ·have HR3 := Lib.hid (show moS l k 116 (m : Int) arg op = some (x - 1, true) from HR.out)
  obtain ⟨x1, x2⟩ := hbx x rfl
  clear hbx
  go_enter Try.func252, Try.ntmps252
  go_wp2_with ((go_at_call 267); refine (goer_find_up a n c l k m op arg _ hI HN.out hn2 hk hm0 (by omega)).mono ?_; rintro e w2 ⟨rfl, hb2⟩; rw [HR2.out]; have hB2 := hB.below hb2 hB.lt; obtain ⟨d0, d1, d2, d3⟩ := hB2.four; have hP2 := hP.below hb2 hP.lt; obtain ⟨s0, s1, s2, s3⟩ := hP2.two; have hacc2 := below_then hacc (by simp; omega) hb2; have z1 : fiA (some x) = x := rfl; have z2 : fiE (some x) = 0 := rfl)
  rw [HR3.out]
  have hG := (hP2.set 0 (.int .i64 (x - 1))).set 1 (.bool true)
  obtain ⟨q0, q1, -, -⟩ := Blk.two hG
  refine bodyPost_ret (v := .tuple #[.agg #[.int .i64 (x - 1), .bool true], .int .i64 0]) (by simp [results, Try.results252, go_sem, q0, q1]) rfl ⟨rfl, ?_⟩
  first | exact (hacc2.setCell (p := ⟨w.heap.size + 1, 0, none⟩) (Nat.le_succ _) _).setCell (p := ⟨w.heap.size + 1, 1, none⟩) (Nat.le_succ _) _ | exact below2 _ _ _
set_option maxRecDepth 100000 in
set_option maxHeartbeats 1000000 in
theorem found_70 (a : Option Addr) (n c : Nat) (l : List Int) (k m : Nat) (op : Bool) (w : World) (hl : Ints w a l) (hn : l.length = n) (hn2 : n ≤ 4096) (hk : k ≤ n) (hk2 : k < n ∨ n = 0) (hm0 : 1 ≤ m) (hm : m ≤ 999) (arg : Int) :
  Calls Try.prog 252 #[goV a n c k (m : Int) op, .int .i64 70, .int .i64 arg] w (MoPost (moS l k 70 (m : Int) arg op) w) := by
 unfold goV
 have hB := (Blk.new w #[.slice a n c, .int .i64 (k : Int), .int .i64 (m : Int), .bool op] 323).alloc (.cells #[.int .i64 0, .bool false] 325)
 obtain ⟨c0, c1, c2, c3⟩ := hB.four
 have hP := Blk.new (w.alloc (.cells #[.slice a n c, .int .i64 (k : Int), .int .i64 (m : Int), .bool op] 323)) #[.int .i64 0, .bool false] 325
 rw [World.size_alloc] at hP
 have hacc := below2 w (.cells #[.slice a n c, .int .i64 (k : Int), .int .i64 (m : Int), .bool op] 323) (.cells #[.int .i64 0, .bool false] 325)
 have hI := hl.below hacc
 have HN := Lib.hid hn
 have HB := Lib.hid (show ∀ x, (placesL l k arg)[m - 1]? = some x → 0 ≤ x ∧ x ≤ n from fun x hx => by
  have hx := List.mem_of_getElem? hx
  have := plD_in _ _ _ x hx; omega)
 obtain ⟨r, hr⟩ : ∃ r, (placesL l k arg)[m - 1]? = r := ⟨_, rfl⟩
 have HR2 := Lib.hid hr
 have HR := Lib.hid (show moS l k 70 (m : Int) arg op = (match (placesL l k arg)[m - 1]? with | some x => some (x, false) | none => none) by simp [moS]; cases (placesL l k arg)[m - 1]? <;> rfl)
 rw [HR2.out] at HR
 have hbx := HB.out
 rw [hr] at hbx
 clear hn hr HB
 rcases r with _ | x
 ·have HR3 := Lib.hid (show moS l k 70 (m : Int) arg op = none from HR.out)
  clear hbx
  go_enter Try.func252, Try.ntmps252
  go_wp2_with ((go_at_call 267); refine (goer_find_down a n c l k m op arg _ hI HN.out hn2 hk hm0 (by omega)).mono ?_; rintro e w2 ⟨rfl, hb2⟩; rw [HR2.out]; have hB2 := hB.below hb2 hB.lt; obtain ⟨d0, d1, d2, d3⟩ := hB2.four; have hP2 := hP.below hb2 hP.lt; obtain ⟨s0, s1, s2, s3⟩ := hP2.two; have hacc2 := below_then hacc (by simp; omega) hb2; have z1 : fiA none = 0 := rfl; have z2 : fiE none = 5 := rfl)
  rw [HR3.out]
  have hG := (hP2.set 0 (.int .i64 (0))).set 1 (.bool false)
  obtain ⟨q0, q1, -, -⟩ := Blk.two hG
  refine bodyPost_ret (v := .tuple #[.agg #[.int .i64 (0), .bool false], .int .i64 5]) (by simp [results, Try.results252, go_sem, q0, q1]) rfl ⟨rfl, ?_⟩
  first | exact (hacc2.setCell (p := ⟨w.heap.size + 1, 0, none⟩) (Nat.le_succ _) _).setCell (p := ⟨w.heap.size + 1, 1, none⟩) (Nat.le_succ _) _ | exact below2 _ _ _
 ·have HR3 := Lib.hid (show moS l k 70 (m : Int) arg op = some (x, false) from HR.out)
  obtain ⟨x1, x2⟩ := hbx x rfl
  clear hbx
  go_enter Try.func252, Try.ntmps252
  go_wp2_with ((go_at_call 267); refine (goer_find_down a n c l k m op arg _ hI HN.out hn2 hk hm0 (by omega)).mono ?_; rintro e w2 ⟨rfl, hb2⟩; rw [HR2.out]; have hB2 := hB.below hb2 hB.lt; obtain ⟨d0, d1, d2, d3⟩ := hB2.four; have hP2 := hP.below hb2 hP.lt; obtain ⟨s0, s1, s2, s3⟩ := hP2.two; have hacc2 := below_then hacc (by simp; omega) hb2; have z1 : fiA (some x) = x := rfl; have z2 : fiE (some x) = 0 := rfl)
  rw [HR3.out]
  have hG := (hP2.set 0 (.int .i64 (x))).set 1 (.bool false)
  obtain ⟨q0, q1, -, -⟩ := Blk.two hG
  refine bodyPost_ret (v := .tuple #[.agg #[.int .i64 (x), .bool false], .int .i64 0]) (by simp [results, Try.results252, go_sem, q0, q1]) rfl ⟨rfl, ?_⟩
  first | exact (hacc2.setCell (p := ⟨w.heap.size + 1, 0, none⟩) (Nat.le_succ _) _).setCell (p := ⟨w.heap.size + 1, 1, none⟩) (Nat.le_succ _) _ | exact below2 _ _ _
set_option maxRecDepth 100000 in
set_option maxHeartbeats 1000000 in
theorem found_84 (a : Option Addr) (n c : Nat) (l : List Int) (k m : Nat) (op : Bool) (w : World) (hl : Ints w a l) (hn : l.length = n) (hn2 : n ≤ 4096) (hk : k ≤ n) (hk2 : k < n ∨ n = 0) (hm0 : 1 ≤ m) (hm : m ≤ 999) (arg : Int) :
  Calls Try.prog 252 #[goV a n c k (m : Int) op, .int .i64 84, .int .i64 arg] w (MoPost (moS l k 84 (m : Int) arg op) w) := by
 unfold goV
 have hB := (Blk.new w #[.slice a n c, .int .i64 (k : Int), .int .i64 (m : Int), .bool op] 323).alloc (.cells #[.int .i64 0, .bool false] 325)
 obtain ⟨c0, c1, c2, c3⟩ := hB.four
 have hP := Blk.new (w.alloc (.cells #[.slice a n c, .int .i64 (k : Int), .int .i64 (m : Int), .bool op] 323)) #[.int .i64 0, .bool false] 325
 rw [World.size_alloc] at hP
 have hacc := below2 w (.cells #[.slice a n c, .int .i64 (k : Int), .int .i64 (m : Int), .bool op] 323) (.cells #[.int .i64 0, .bool false] 325)
 have hI := hl.below hacc
 have HN := Lib.hid hn
 have HB := Lib.hid (show ∀ x, (placesL l k arg)[m - 1]? = some x → 0 ≤ x ∧ x ≤ n from fun x hx => by
  have hx := List.mem_of_getElem? hx
  have := plD_in _ _ _ x hx; omega)
 obtain ⟨r, hr⟩ : ∃ r, (placesL l k arg)[m - 1]? = r := ⟨_, rfl⟩
 have HR2 := Lib.hid hr
 have HR := Lib.hid (show moS l k 84 (m : Int) arg op = (match (placesL l k arg)[m - 1]? with | some x => some (x + 1, false) | none => none) by simp [moS]; cases (placesL l k arg)[m - 1]? <;> rfl)
 rw [HR2.out] at HR
 have hbx := HB.out
 rw [hr] at hbx
 clear hn hr HB
 rcases r with _ | x
 ·have HR3 := Lib.hid (show moS l k 84 (m : Int) arg op = none from HR.out)
  clear hbx
  go_enter Try.func252, Try.ntmps252
  go_wp2_with ((go_at_call 267); refine (goer_find_down a n c l k m op arg _ hI HN.out hn2 hk hm0 (by omega)).mono ?_; rintro e w2 ⟨rfl, hb2⟩; rw [HR2.out]; have hB2 := hB.below hb2 hB.lt; obtain ⟨d0, d1, d2, d3⟩ := hB2.four; have hP2 := hP.below hb2 hP.lt; obtain ⟨s0, s1, s2, s3⟩ := hP2.two; have hacc2 := below_then hacc (by simp; omega) hb2; have z1 : fiA none = 0 := rfl; have z2 : fiE none = 5 := rfl)
  rw [HR3.out]
  have hG := (hP2.set 0 (.int .i64 (0))).set 1 (.bool false)
  obtain ⟨q0, q1, -, -⟩ := Blk.two hG
  refine bodyPost_ret (v := .tuple #[.agg #[.int .i64 (0), .bool false], .int .i64 5]) (by simp [results, Try.results252, go_sem, q0, q1]) rfl ⟨rfl, ?_⟩
  first | exact (hacc2.setCell (p := ⟨w.heap.size + 1, 0, none⟩) (Nat.le_succ _) _).setCell (p := ⟨w.heap.size + 1, 1, none⟩) (Nat.le_succ _) _ | exact below2 _ _ _
 ·have HR3 := Lib.hid (show moS l k 84 (m : Int) arg op = some (x + 1, false) from HR.out)
  obtain ⟨x1, x2⟩ := hbx x rfl
  clear hbx
  go_enter Try.func252, Try.ntmps252
  go_wp2_with ((go_at_call 267); refine (goer_find_down a n c l k m op arg _ hI HN.out hn2 hk hm0 (by omega)).mono ?_; rintro e w2 ⟨rfl, hb2⟩; rw [HR2.out]; have hB2 := hB.below hb2 hB.lt; obtain ⟨d0, d1, d2, d3⟩ := hB2.four; have hP2 := hP.below hb2 hP.lt; obtain ⟨s0, s1, s2, s3⟩ := hP2.two; have hacc2 := below_then hacc (by simp; omega) hb2; have z1 : fiA (some x) = x := rfl; have z2 : fiE (some x) = 0 := rfl)
  rw [HR3.out]
  have hG := (hP2.set 0 (.int .i64 (x + 1))).set 1 (.bool false)
  obtain ⟨q0, q1, -, -⟩ := Blk.two hG
  refine bodyPost_ret (v := .tuple #[.agg #[.int .i64 (x + 1), .bool false], .int .i64 0]) (by simp [results, Try.results252, go_sem, q0, q1]) rfl ⟨rfl, ?_⟩
  first | exact (hacc2.setCell (p := ⟨w.heap.size + 1, 0, none⟩) (Nat.le_succ _) _).setCell (p := ⟨w.heap.size + 1, 1, none⟩) (Nat.le_succ _) _ | exact below2 _ _ _
theorem goer_plain (a : Option Addr) (n c : Nat) (l : List Int) (k m : Nat) (op : Bool) (w : World) (hl : Ints w a l) (hn : l.length = n) (hn2 : n ≤ 4096) (hk : k ≤ n) (hk2 : k < n ∨ n = 0) (hm0 : 1 ≤ m) (hm : m ≤ 999) (key arg : Int) (hK : knownS key = true) (hF : findS key = false) :
  Calls Try.prog 253 #[goV a n c k (m : Int) op, .int .i64 key] w (MoPost (moS l k key (m : Int) arg op) w) := by
 have hn' : n = 0 ∨ 1 ≤ n := by omega
 rcases key_ways key with rfl | rfl | rfl | rfl | rfl | rfl | rfl | rfl | rfl | rfl | rfl | rfl | rfl | rfl | rfl | rfl | rfl | h
 ·exact plain_h a n c l k m op w hl hn hn2 hk hk2 hm0 hm arg
 ·exact plain_l a n c l k m op w hl hn hn2 hk hk2 hm0 hm arg
 ·exact plain_0 a n c l k m op w hl hn hn2 hk hk2 hm0 hm arg
 ·exact plain_first a n c l k m op w hl hn hn2 hk hk2 hm0 hm arg
 ·rcases hn' with h0 | h0
  ·exact plain_nil_36 a n c l k m op w hl hn hn2 hk hk2 hm0 hm arg h0 (by omega)
  ·exact plain_36 a n c l k m op w hl hn hn2 hk hk2 hm0 hm arg h0 (by omega)
 ·rcases hn' with h0 | h0
  ·exact plain_nil_124 a n c l k m op w hl hn hn2 hk hk2 hm0 hm arg h0 (by omega)
  ·exact plain_124 a n c l k m op w hl hn hn2 hk hk2 hm0 hm arg h0 (by omega)
 ·rcases hn' with h0 | h0
  ·exact plain_nil_119 a n c l k m op w hl hn hn2 hk hk2 hm0 hm arg h0 (by omega)
  ·exact plain_119 a n c l k m op w hl hn hn2 hk hk2 hm0 hm arg h0 (by omega)
 ·rcases hn' with h0 | h0
  ·exact plain_nil_87 a n c l k m op w hl hn hn2 hk hk2 hm0 hm arg h0 (by omega)
  ·exact plain_87 a n c l k m op w hl hn hn2 hk hk2 hm0 hm arg h0 (by omega)
 ·exact plain_b a n c l k m op w hl hn hn2 hk hk2 hm0 hm arg
 ·exact plain_B a n c l k m op w hl hn hn2 hk hk2 hm0 hm arg
 ·rcases hn' with h0 | h0
  ·exact plain_nil_101 a n c l k m op w hl hn hn2 hk hk2 hm0 hm arg h0 (by omega)
  ·exact plain_101 a n c l k m op w hl hn hn2 hk hk2 hm0 hm arg h0 (by omega)
 ·rcases hn' with h0 | h0
  ·exact plain_nil_69 a n c l k m op w hl hn hn2 hk hk2 hm0 hm arg h0 (by omega)
  ·exact plain_69 a n c l k m op w hl hn hn2 hk hk2 hm0 hm arg h0 (by omega)
 ·rcases hn' with h0 | h0
  ·exact plain_nil_37 a n c l k m op w hl hn hn2 hk hk2 hm0 hm arg h0 (by omega)
  ·exact plain_37 a n c l k m op w hl hn hn2 hk hk2 hm0 hm arg h0 (by omega)
 all_goals first | (simp [findS] at hF; done) | (rw [hK] at h; cases h)
theorem goer_found (a : Option Addr) (n c : Nat) (l : List Int) (k m : Nat) (op : Bool) (w : World) (hl : Ints w a l) (hn : l.length = n) (hn2 : n ≤ 4096) (hk : k ≤ n) (hk2 : k < n ∨ n = 0) (hm0 : 1 ≤ m) (hm : m ≤ 999) (key arg : Int) (hF : findS key = true) :
  Calls Try.prog 252 #[goV a n c k (m : Int) op, .int .i64 key, .int .i64 arg] w (MoPost (moS l k key (m : Int) arg op) w) := by
 rcases (show key = 102 ∨ key = 70 ∨ key = 116 ∨ key = 84 by simp [findS] at hF; omega) with rfl | rfl | rfl | rfl
 ·exact found_102 a n c l k m op w hl hn hn2 hk hk2 hm0 hm arg
 ·exact found_70 a n c l k m op w hl hn hn2 hk hk2 hm0 hm arg
 ·exact found_116 a n c l k m op w hl hn hn2 hk hk2 hm0 hm arg
 ·exact found_84 a n c l k m op w hl hn hn2 hk hk2 hm0 hm arg
end Go.Proofs.Ytmipnikhgihcpaa
