/- Contract of fairref.Range; the walk of fairlaw.MotionSays. -/
import Derived.Test.YtbgbcmfgncneiaaMot11
namespace Go.Proofs.Ytbgbcmfgncneiaa
open Go.RowKit
set_option linter.unusedVariables false
set_option linter.unusedSimpArgs false

theorem go_none {l : List Int} {k key count arg : Int} {op : Bool} (hE : moveE l k key count = 0) (h : moS l k.toNat key (max 1 count) arg op = none) : goA l k key count arg op = 0 ∧ goB l k key count arg op = false ∧ goE l k key count arg op = 5 := by
  rw [goA, goB, goE, if_pos hE, if_pos hE, if_pos hE, h]; exact ⟨rfl, rfl, rfl⟩
theorem go_some {l : List Int} {k key count arg : Int} {op : Bool} {x : Int} {b : Bool} (hE : moveE l k key count = 0) (h : moS l k.toNat key (max 1 count) arg op = some (x, b)) : goA l k key count arg op = x ∧ goB l k key count arg op = b ∧ goE l k key count arg op = 0 := by
  rw [goA, goB, goE, if_pos hE, if_pos hE, if_pos hE, h]; exact ⟨rfl, rfl, rfl⟩
theorem go_bad {l : List Int} {k key count arg : Int} {op : Bool} (hE : moveE l k key count ≠ 0) : goA l k key count arg op = 0 ∧ goB l k key count arg op = false ∧ goE l k key count arg op = moveE l k key count := by
  rw [goA, goB, goE, if_neg hE, if_neg hE, if_neg hE]; exact ⟨rfl, rfl, rfl⟩
theorem goA_in {l : List Int} {k key count arg : Int} {op : Bool} : InR (goA l k key count arg op + 1) := by
  by_cases hE : moveE l k key count = 0
  · obtain ⟨h1, h2, h3, h4, h5, h6⟩ := moveE_ok hE
    rcases h : moS l k.toNat key (max 1 count) arg op with _ | ⟨x, b⟩
    · rw [(go_none hE h).1]; exact ⟨by omega, by omega⟩
    · rw [(go_some hE h).1]
      have := moS_bd (by omega) (by omega) h
      exact ⟨by omega, by omega⟩
  · rw [(go_bad hE).1]; exact ⟨by omega, by omega⟩
theorem goE_k {l : List Int} {k key count arg : Int} {op : Bool} (h : goE l k key count arg op = 0) : k ≤ 4096 := by
  by_cases hE : moveE l k key count = 0
  · obtain ⟨h1, h2, h3, h4, h5, h6⟩ := moveE_ok hE
    omega
  · rw [(go_bad hE).2.2] at h; exact absurd h hE
theorem motion_range_any (a : Option Addr) (n c : Nat) (l : List Int) (k key count arg : Int) (w : World) (hl : Ints w a l) (hn : l.length = n) (hn2 : n ≤ 9223372036854775807) (hk : InR k) :
    Calls Try.prog 80 #[.slice a n c, .int .i64 k, mvV key count arg] w (RaPost (raF l k key count arg) (raT l k key count arg) (goE l k key count arg true) w) :=
  motion_range a n c l k key count arg w hl hn hn2 hk goA_in goE_k

theorem raF_none {l : List Int} {k key count arg : Int} (h : goE l k key count arg true ≠ 0) : raF l k key count arg = 0 ∧ raT l k key count arg = 0 := by
  rw [raF, raT, if_neg h, if_neg h]; exact ⟨rfl, rfl⟩
theorem raF_some {l : List Int} {k key count arg : Int} {x : Int} {b : Bool} (hA : goA l k key count arg true = x) (hB : goB l k key count arg true = b) (h : goE l k key count arg true = 0) : raF l k key count arg = min k x ∧ raT l k key count arg = max k x + (if b then 1 else 0) := by
  rw [raF, raT, if_pos h, if_pos h, hA, hB]; exact ⟨rfl, rfl⟩

set_option maxRecDepth 100000 in
set_option maxHeartbeats 2000000 in
theorem ref_range (a : Option Addr) (n c : Nat) (l : List Int) (k key count arg : Int) (w : World) (hl : Ints w a l) (hn : l.length = n) (hE : moveE l k key count = 0) :
    Calls Try.prog 83 #[.slice a n c, .int .i64 k, mvV key count arg] w (RRaPost (raF l k key count arg) (raT l k key count arg) (decide (goE l k key count arg true = 0)) w) := by
  have hk := moveE_ok hE
  obtain ⟨g1, g2, g3, -, -, -⟩ := hk
  have hk4 : k ≤ 4096 := by omega
  unfold mvV
  have hB := Blk.new w #[.int .i64 key, .int .i64 count, .int .i64 arg] 116
  obtain ⟨c0, c1, c2, -, -, -⟩ := hB.three
  have hacc := below1 w (.cells #[.int .i64 key, .int .i64 count, .int .i64 arg] 116)
  have hI := hl.below hacc
  rcases h : moS l k.toNat key (max 1 count) arg true with _ | ⟨x, b⟩
  · obtain ⟨e1, e2, e3⟩ := go_none hE h
    obtain ⟨r1, r2⟩ := raF_none (l := l) (k := k) (key := key) (count := count) (arg := arg) (by rw [e3]; decide)
    rw [r1, r2, e3]
    have CT := fun w hl => ref_go a n c l k key count arg true w hl hn hE
    rw [h] at CT
    have HCT := Lib.hid CT
    clear CT h hE e1 e2 e3 r1 r2 hn
    go_enter Try.func83, Try.ntmps83
    go_wp2_with ((go_at_call 82); refine (HCT.out _ hI).mono ?_; rintro e w2 ⟨x, b, rfl, -, hb2⟩; have hnn : Option.isNone (none : Option (Int × Bool)) = true := rfl)
    go_ret3
    exact ⟨rfl, below_then hacc (by simp) hb2⟩
  · obtain ⟨e1, e2, e3⟩ := go_some hE h
    obtain ⟨r1, r2⟩ := raF_some e1 e2 e3
    have hx := moS_bd (by omega) (by omega) h
    have hx4 : x ≤ 4096 := by omega
    have hx0 : 0 ≤ x := by omega
    rw [r1, r2, e3]
    have CT := fun w hl => ref_go a n c l k key count arg true w hl hn hE
    rw [h] at CT
    have HCT := Lib.hid CT
    clear CT h hE e1 e2 e3 r1 r2 hn hx
    rcases (show k ≤ x ∨ x < k by omega) with h1 | h1
    · have HM1 := Lib.hid (show min k x = k by omega)
      have HM2 := Lib.hid (show max k x = x by omega)
      have h2 : ¬ x < k := by omega
      cases b
      all_goals
        go_enter Try.func83, Try.ntmps83
        go_wp2_with ((go_at_call 82); refine (HCT.out _ hI).mono ?_; rintro e w2 ⟨x', b', rfl, hxx, hb2⟩; obtain ⟨y1, y2⟩ := Prod.mk.inj (hxx _ rfl); subst y1; subst y2; have hnn : ∀ y : Int × Bool, Option.isNone (some y) = false := fun _ => rfl; clear hxx)
        go_ret3
        rw [HM1.out, HM2.out]
        exact ⟨by first | rfl | simp, below_then hacc (by simp) hb2⟩
    · have HM1 := Lib.hid (show min k x = x by omega)
      have HM2 := Lib.hid (show max k x = k by omega)
      cases b
      all_goals
        go_enter Try.func83, Try.ntmps83
        go_wp2_with ((go_at_call 82); refine (HCT.out _ hI).mono ?_; rintro e w2 ⟨x', b', rfl, hxx, hb2⟩; obtain ⟨y1, y2⟩ := Prod.mk.inj (hxx _ rfl); subst y1; subst y2; have hnn : ∀ y : Int × Bool, Option.isNone (some y) = false := fun _ => rfl; clear hxx)
        go_ret3
        rw [HM1.out, HM2.out]
        exact ⟨by first | rfl | simp, below_then hacc (by simp) hb2⟩

set_option maxRecDepth 100000 in
set_option maxHeartbeats 4000000 in
theorem motionSays_walk (a : Option Addr) (n c : Nat) (l : List Int) (k key count arg : Int) (op : Bool) (w : World) (hl : Ints w a l) (hn : l.length = n) (hn2 : n ≤ 9223372036854775807) (hk : InR k) :
    Calls Try.prog 15 #[.slice a n c, .int .i64 k, mvV key count arg, .bool op] w fun e w' => e = .returned (.bool true) ∧ Below w.heap.size w w' := by
  obtain ⟨k1, k2⟩ := hk
  have hB := Blk.new w #[.int .i64 key, .int .i64 count, .int .i64 arg] 116
  obtain ⟨c0, c1, c2, -, -, -⟩ := hB.three
  have hacc := below1 w (.cells #[.int .i64 key, .int .i64 count, .int .i64 arg] 116)
  have HN := Lib.hid hn
  by_cases hE : moveE l k key count = 0
  · have HE := Lib.hid hE
    rcases h : moS l k.toNat key (max 1 count) arg op with _ | ⟨x, b⟩ <;> rcases h2 : moS l k.toNat key (max 1 count) arg true with _ | ⟨y, b2⟩
    · obtain ⟨e1, e2, e3⟩ := go_none hE h
      obtain ⟨f1, f2, f3⟩ := go_none hE h2
      have CT := fun w hl => ref_go a n c l k key count arg op w hl hn hE
      have CR := fun w hl => ref_range a n c l k key count arg w hl hn hE
      rw [h] at CT
      rw [f3] at CR
      obtain ⟨r1, r2⟩ := raF_none (l := l) (k := k) (key := key) (count := count) (arg := arg) (by rw [f3]; decide)
      rw [r1, r2] at CR
      have hdec : decide ((5 : Int) = 0) = false := rfl
      rw [hdec] at CR
      have HCT := Lib.hid CT; have HCR := Lib.hid CR; have HA := Lib.hid e1; have HB := Lib.hid e2; have HG := Lib.hid e3; have HG2 := Lib.hid f3; have HF := Lib.hid r1; have HT := Lib.hid r2
      clear CT CR e1 e2 e3 f1 f2 f3 r1 r2 h h2 hE hn hdec
      unfold mvV
      go_enter Try.func15, Try.ntmps15
      go_wp2_with (first | ((go_at_call 78); refine (ref_move_err a n c l k key count arg _ HN.out hn2).mono ?_; rintro e w2 ⟨rfl, hb2⟩; rw [HE.out]; have hB2 := hB.below hb2 hB.lt; obtain ⟨d0, d1, d2, -, -, -⟩ := hB2.three; have hacc2 := below_then hacc (by simp) hb2) | ((go_at_call 79); refine (motion_go a n c l k key count arg op _ (hl.below hacc2) HN.out hn2 ⟨k1, k2⟩).mono ?_; rintro e w3 ⟨rfl, hb3⟩; rw [HA.out, HB.out, HG.out]; have hB3 := hB2.below hb3 hB2.lt; obtain ⟨d3, d4, d5, -, -, -⟩ := hB3.three; have hacc3 := below_then hacc2 hacc2.size hb3) | ((go_at_call 80); refine (motion_range_any a n c l k key count arg _ (hl.below hacc3) HN.out hn2 ⟨k1, k2⟩).mono ?_; rintro e w4 ⟨rfl, hb4⟩; rw [HF.out, HT.out, HG2.out]; have hB4 := hB3.below hb4 hB3.lt; obtain ⟨d6, d7, d8, -, -, -⟩ := hB4.three; have hacc4 := below_then hacc3 hacc3.size hb4) | ((go_at_call 81); refine (motion_check a n c l k key count arg _ HN.out hn2 ⟨k1, k2⟩).mono ?_; rintro e w5 ⟨rfl, hb5⟩; rw [HE.out]; have hB5 := hB4.below hb5 hB4.lt; obtain ⟨d9, d10, d11, -, -, -⟩ := hB5.three; have hacc5 := below_then hacc4 hacc4.size hb5) | ((go_at_call 82); refine (HCT.out _ (hl.below hacc5)).mono ?_; rintro e w6 ⟨x', b', rfl, hxx, hb6⟩; clear hxx; have hB6 := hB5.below hb6 hB5.lt; obtain ⟨d12, d13, d14, -, -, -⟩ := hB6.three; have hacc6 := below_then hacc5 hacc5.size hb6; have hn1 : ∀ y : Int × Bool, Option.isNone (some y) = false := (fun _ => rfl); have hn3 : Option.isNone (none : Option (Int × Bool)) = true := rfl) | ((go_at_call 83); refine (HCR.out _ (hl.below hacc6)).mono ?_; rintro e w7 ⟨rfl, hb7⟩; have hacc7 := below_then hacc6 hacc6.size hb7))
      all_goals
        go_ret
        exact ⟨by first | rfl | simp, hacc7⟩
    · obtain ⟨e1, e2, e3⟩ := go_none hE h
      obtain ⟨f1, f2, f3⟩ := go_some hE h2
      have CT := fun w hl => ref_go a n c l k key count arg op w hl hn hE
      have CR := fun w hl => ref_range a n c l k key count arg w hl hn hE
      rw [h] at CT
      rw [f3] at CR
      obtain ⟨F, r1⟩ : ∃ F, raF l k key count arg = F := ⟨_, rfl⟩
      obtain ⟨T, r2⟩ : ∃ T, raT l k key count arg = T := ⟨_, rfl⟩
      rw [r1, r2] at CR
      have hdec : decide ((0 : Int) = 0) = true := rfl
      rw [hdec] at CR
      have HCT := Lib.hid CT; have HCR := Lib.hid CR; have HA := Lib.hid e1; have HB := Lib.hid e2; have HG := Lib.hid e3; have HG2 := Lib.hid f3; have HF := Lib.hid r1; have HT := Lib.hid r2
      clear CT CR e1 e2 e3 f1 f2 f3 r1 r2 h h2 hE hn hdec
      unfold mvV
      go_enter Try.func15, Try.ntmps15
      go_wp2_with (first | ((go_at_call 78); refine (ref_move_err a n c l k key count arg _ HN.out hn2).mono ?_; rintro e w2 ⟨rfl, hb2⟩; rw [HE.out]; have hB2 := hB.below hb2 hB.lt; obtain ⟨d0, d1, d2, -, -, -⟩ := hB2.three; have hacc2 := below_then hacc (by simp) hb2) | ((go_at_call 79); refine (motion_go a n c l k key count arg op _ (hl.below hacc2) HN.out hn2 ⟨k1, k2⟩).mono ?_; rintro e w3 ⟨rfl, hb3⟩; rw [HA.out, HB.out, HG.out]; have hB3 := hB2.below hb3 hB2.lt; obtain ⟨d3, d4, d5, -, -, -⟩ := hB3.three; have hacc3 := below_then hacc2 hacc2.size hb3) | ((go_at_call 80); refine (motion_range_any a n c l k key count arg _ (hl.below hacc3) HN.out hn2 ⟨k1, k2⟩).mono ?_; rintro e w4 ⟨rfl, hb4⟩; rw [HF.out, HT.out, HG2.out]; have hB4 := hB3.below hb4 hB3.lt; obtain ⟨d6, d7, d8, -, -, -⟩ := hB4.three; have hacc4 := below_then hacc3 hacc3.size hb4) | ((go_at_call 81); refine (motion_check a n c l k key count arg _ HN.out hn2 ⟨k1, k2⟩).mono ?_; rintro e w5 ⟨rfl, hb5⟩; rw [HE.out]; have hB5 := hB4.below hb5 hB4.lt; obtain ⟨d9, d10, d11, -, -, -⟩ := hB5.three; have hacc5 := below_then hacc4 hacc4.size hb5) | ((go_at_call 82); refine (HCT.out _ (hl.below hacc5)).mono ?_; rintro e w6 ⟨x', b', rfl, hxx, hb6⟩; clear hxx; have hB6 := hB5.below hb6 hB5.lt; obtain ⟨d12, d13, d14, -, -, -⟩ := hB6.three; have hacc6 := below_then hacc5 hacc5.size hb6; have hn1 : ∀ y : Int × Bool, Option.isNone (some y) = false := (fun _ => rfl); have hn3 : Option.isNone (none : Option (Int × Bool)) = true := rfl) | ((go_at_call 83); refine (HCR.out _ (hl.below hacc6)).mono ?_; rintro e w7 ⟨rfl, hb7⟩; have hacc7 := below_then hacc6 hacc6.size hb7))
      all_goals
        go_ret
        exact ⟨by first | rfl | simp, hacc7⟩
    · obtain ⟨e1, e2, e3⟩ := go_some hE h
      obtain ⟨f1, f2, f3⟩ := go_none hE h2
      have CT := fun w hl => ref_go a n c l k key count arg op w hl hn hE
      have CR := fun w hl => ref_range a n c l k key count arg w hl hn hE
      rw [h] at CT
      rw [f3] at CR
      obtain ⟨r1, r2⟩ := raF_none (l := l) (k := k) (key := key) (count := count) (arg := arg) (by rw [f3]; decide)
      rw [r1, r2] at CR
      have hdec : decide ((5 : Int) = 0) = false := rfl
      rw [hdec] at CR
      have HCT := Lib.hid CT; have HCR := Lib.hid CR; have HA := Lib.hid e1; have HB := Lib.hid e2; have HG := Lib.hid e3; have HG2 := Lib.hid f3; have HF := Lib.hid r1; have HT := Lib.hid r2
      clear CT CR e1 e2 e3 f1 f2 f3 r1 r2 h h2 hE hn hdec
      unfold mvV
      go_enter Try.func15, Try.ntmps15
      go_wp2_with (first | ((go_at_call 78); refine (ref_move_err a n c l k key count arg _ HN.out hn2).mono ?_; rintro e w2 ⟨rfl, hb2⟩; rw [HE.out]; have hB2 := hB.below hb2 hB.lt; obtain ⟨d0, d1, d2, -, -, -⟩ := hB2.three; have hacc2 := below_then hacc (by simp) hb2) | ((go_at_call 79); refine (motion_go a n c l k key count arg op _ (hl.below hacc2) HN.out hn2 ⟨k1, k2⟩).mono ?_; rintro e w3 ⟨rfl, hb3⟩; rw [HA.out, HB.out, HG.out]; have hB3 := hB2.below hb3 hB2.lt; obtain ⟨d3, d4, d5, -, -, -⟩ := hB3.three; have hacc3 := below_then hacc2 hacc2.size hb3) | ((go_at_call 80); refine (motion_range_any a n c l k key count arg _ (hl.below hacc3) HN.out hn2 ⟨k1, k2⟩).mono ?_; rintro e w4 ⟨rfl, hb4⟩; rw [HF.out, HT.out, HG2.out]; have hB4 := hB3.below hb4 hB3.lt; obtain ⟨d6, d7, d8, -, -, -⟩ := hB4.three; have hacc4 := below_then hacc3 hacc3.size hb4) | ((go_at_call 81); refine (motion_check a n c l k key count arg _ HN.out hn2 ⟨k1, k2⟩).mono ?_; rintro e w5 ⟨rfl, hb5⟩; rw [HE.out]; have hB5 := hB4.below hb5 hB4.lt; obtain ⟨d9, d10, d11, -, -, -⟩ := hB5.three; have hacc5 := below_then hacc4 hacc4.size hb5) | ((go_at_call 82); refine (HCT.out _ (hl.below hacc5)).mono ?_; rintro e w6 ⟨x', b', rfl, hxx, hb6⟩; obtain ⟨y1, y2⟩ := Prod.mk.inj (hxx _ rfl); subst y1; subst y2; clear hxx; have hB6 := hB5.below hb6 hB5.lt; obtain ⟨d12, d13, d14, -, -, -⟩ := hB6.three; have hacc6 := below_then hacc5 hacc5.size hb6; have hn1 : ∀ y : Int × Bool, Option.isNone (some y) = false := (fun _ => rfl); have hn3 : Option.isNone (none : Option (Int × Bool)) = true := rfl) | ((go_at_call 83); refine (HCR.out _ (hl.below hacc6)).mono ?_; rintro e w7 ⟨rfl, hb7⟩; have hacc7 := below_then hacc6 hacc6.size hb7))
      all_goals
        go_ret
        exact ⟨by first | rfl | simp, hacc7⟩
    · obtain ⟨e1, e2, e3⟩ := go_some hE h
      obtain ⟨f1, f2, f3⟩ := go_some hE h2
      have CT := fun w hl => ref_go a n c l k key count arg op w hl hn hE
      have CR := fun w hl => ref_range a n c l k key count arg w hl hn hE
      rw [h] at CT
      rw [f3] at CR
      obtain ⟨F, r1⟩ : ∃ F, raF l k key count arg = F := ⟨_, rfl⟩
      obtain ⟨T, r2⟩ : ∃ T, raT l k key count arg = T := ⟨_, rfl⟩
      rw [r1, r2] at CR
      have hdec : decide ((0 : Int) = 0) = true := rfl
      rw [hdec] at CR
      have HCT := Lib.hid CT; have HCR := Lib.hid CR; have HA := Lib.hid e1; have HB := Lib.hid e2; have HG := Lib.hid e3; have HG2 := Lib.hid f3; have HF := Lib.hid r1; have HT := Lib.hid r2
      clear CT CR e1 e2 e3 f1 f2 f3 r1 r2 h h2 hE hn hdec
      unfold mvV
      go_enter Try.func15, Try.ntmps15
      go_wp2_with (first | ((go_at_call 78); refine (ref_move_err a n c l k key count arg _ HN.out hn2).mono ?_; rintro e w2 ⟨rfl, hb2⟩; rw [HE.out]; have hB2 := hB.below hb2 hB.lt; obtain ⟨d0, d1, d2, -, -, -⟩ := hB2.three; have hacc2 := below_then hacc (by simp) hb2) | ((go_at_call 79); refine (motion_go a n c l k key count arg op _ (hl.below hacc2) HN.out hn2 ⟨k1, k2⟩).mono ?_; rintro e w3 ⟨rfl, hb3⟩; rw [HA.out, HB.out, HG.out]; have hB3 := hB2.below hb3 hB2.lt; obtain ⟨d3, d4, d5, -, -, -⟩ := hB3.three; have hacc3 := below_then hacc2 hacc2.size hb3) | ((go_at_call 80); refine (motion_range_any a n c l k key count arg _ (hl.below hacc3) HN.out hn2 ⟨k1, k2⟩).mono ?_; rintro e w4 ⟨rfl, hb4⟩; rw [HF.out, HT.out, HG2.out]; have hB4 := hB3.below hb4 hB3.lt; obtain ⟨d6, d7, d8, -, -, -⟩ := hB4.three; have hacc4 := below_then hacc3 hacc3.size hb4) | ((go_at_call 81); refine (motion_check a n c l k key count arg _ HN.out hn2 ⟨k1, k2⟩).mono ?_; rintro e w5 ⟨rfl, hb5⟩; rw [HE.out]; have hB5 := hB4.below hb5 hB4.lt; obtain ⟨d9, d10, d11, -, -, -⟩ := hB5.three; have hacc5 := below_then hacc4 hacc4.size hb5) | ((go_at_call 82); refine (HCT.out _ (hl.below hacc5)).mono ?_; rintro e w6 ⟨x', b', rfl, hxx, hb6⟩; obtain ⟨y1, y2⟩ := Prod.mk.inj (hxx _ rfl); subst y1; subst y2; clear hxx; have hB6 := hB5.below hb6 hB5.lt; obtain ⟨d12, d13, d14, -, -, -⟩ := hB6.three; have hacc6 := below_then hacc5 hacc5.size hb6; have hn1 : ∀ y : Int × Bool, Option.isNone (some y) = false := (fun _ => rfl); have hn3 : Option.isNone (none : Option (Int × Bool)) = true := rfl) | ((go_at_call 83); refine (HCR.out _ (hl.below hacc6)).mono ?_; rintro e w7 ⟨rfl, hb7⟩; have hacc7 := below_then hacc6 hacc6.size hb7))
      all_goals
        go_ret
        exact ⟨by first | rfl | simp, hacc7⟩
  · obtain ⟨E, hE2⟩ : ∃ E, moveE l k key count = E := ⟨_, rfl⟩
    obtain ⟨e1, e2, e3⟩ := go_bad (arg := arg) (op := op) hE
    obtain ⟨f1, f2, f3⟩ := go_bad (arg := arg) (op := true) hE
    obtain ⟨r1, r2⟩ := raF_none (l := l) (k := k) (key := key) (count := count) (arg := arg) (by rw [f3]; exact hE)
    rw [hE2] at e3 f3 hE
    have hE0 : (E != 0) = true := by simpa using hE
    have HE := Lib.hid hE2; have HA := Lib.hid e1; have HB := Lib.hid e2; have HG := Lib.hid e3; have HG2 := Lib.hid f3; have HF := Lib.hid r1; have HT := Lib.hid r2
    clear hE2 e1 e2 e3 f1 f2 f3 r1 r2 hE hn
    unfold mvV
    go_enter Try.func15, Try.ntmps15
    go_wp2_with (first | ((go_at_call 78); refine (ref_move_err a n c l k key count arg _ HN.out hn2).mono ?_; rintro e w2 ⟨rfl, hb2⟩; rw [HE.out]; have hB2 := hB.below hb2 hB.lt; obtain ⟨d0, d1, d2, -, -, -⟩ := hB2.three; have hacc2 := below_then hacc (by simp) hb2) | ((go_at_call 79); refine (motion_go a n c l k key count arg op _ (hl.below hacc2) HN.out hn2 ⟨k1, k2⟩).mono ?_; rintro e w3 ⟨rfl, hb3⟩; rw [HA.out, HB.out, HG.out]; have hB3 := hB2.below hb3 hB2.lt; obtain ⟨d3, d4, d5, -, -, -⟩ := hB3.three; have hacc3 := below_then hacc2 hacc2.size hb3) | ((go_at_call 80); refine (motion_range_any a n c l k key count arg _ (hl.below hacc3) HN.out hn2 ⟨k1, k2⟩).mono ?_; rintro e w4 ⟨rfl, hb4⟩; rw [HF.out, HT.out, HG2.out]; have hB4 := hB3.below hb4 hB3.lt; obtain ⟨d6, d7, d8, -, -, -⟩ := hB4.three; have hacc4 := below_then hacc3 hacc3.size hb4) | ((go_at_call 81); refine (motion_check a n c l k key count arg _ HN.out hn2 ⟨k1, k2⟩).mono ?_; rintro e w5 ⟨rfl, hb5⟩; rw [HE.out]; have hB5 := hB4.below hb5 hB4.lt; obtain ⟨d9, d10, d11, -, -, -⟩ := hB5.three; have hacc5 := below_then hacc4 hacc4.size hb5))
    all_goals
      go_ret
      exact ⟨by first | rfl | simp, hacc5⟩

end Go.Proofs.Ytbgbcmfgncneiaa
