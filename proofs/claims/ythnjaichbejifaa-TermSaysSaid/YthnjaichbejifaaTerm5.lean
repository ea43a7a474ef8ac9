/- Contract of fairref.Shown. -/
import Derived.Test.YthnjaichbejifaaTermA
namespace Go.Proofs.Ythnjaichbejifaa
open Go.RowKit
set_option linter.unusedVariables false
set_option linter.unusedSimpArgs false

theorem rowField (a : Option Addr) (n c : Nat) (v : Value) (w : World) : (Instr.field 46 (.agg #[.slice a n c, v]) 0).run Try.prog w = .ok (.slice a n c) w := by
  kernel_rfl

def ShownPost (n : Nat) (s : List Int × Nat) (w : World) (e : Ending) (w' : World) : Prop :=
  ∃ g c, e = .returned (.agg #[.slice (some ⟨g, 0, none⟩) n c, .int .i64 (s.2 : Int)]) ∧ Ints w' (some ⟨g, 0, none⟩) s.1 ∧ Below w.heap.size w w'

set_option maxRecDepth 100000 in
set_option maxHeartbeats 2000000 in
theorem ref_shown (a a2 : Option Addr) (n c n2 c2 p : Nat) (xs l : List Int) (w : World) (ha : Ints w a xs) (hn : xs.length = n) (hl : Ints w a2 l) (hn2 : l.length = n2) (h22 : n2 ≤ 9223372036854775807) (h1 : 2 ≤ n) (h2 : n ≤ 120) (h3 : p ≤ n) (h0 : a = none → n = 0) :
    Calls Try.prog 80 #[.agg #[.slice a n c, .int .i64 (p : Int)], .slice a2 n2 c2] w (ShownPost n (termRun l (xs, p) n2) w) := by
  have HN := Lib.hid hn; have HN2 := Lib.hid hn2; clear hn hn2
  have H0 := Lib.hid h0; clear h0
  have hbel := below2 w (.cells #[.slice a n c, .int .i64 (p : Int)] 46) (.cells #[.slice none 0 0, .int .i64 0] 46)
  have hA := Blk.new (w.alloc (.cells #[.slice a n c, .int .i64 (p : Int)] 46)) #[.slice none 0 0, .int .i64 0] 46
  have hP := (Blk.new w #[.slice a n c, .int .i64 (p : Int)] 46).alloc (.cells #[.slice none 0 0, .int .i64 0] 46)
  rw [World.size_alloc] at hA
  go_enter Try.func80, Try.ntmps80
  go_upto_region 1 with fail
  obtain ⟨w2, hW2⟩ : ∃ w2, w2 = (w.alloc (.cells #[.slice a n c, .int .i64 (p : Int)] 46)).alloc (.cells #[.slice none 0 0, .int .i64 0] 46) := ⟨_, rfl⟩
  rw [← hW2] at hbel hA hP ⊢
  clear hW2
  have ha2 := ha.below hbel
  have hl2 := hl.below hbel
  clear ha hl
  obtain ⟨c0, c1, -, -⟩ := hP.two
  have hz2 := hA.lt
  go_cut [5, 6] (fun v u wx => ∃ g8 c8, v = .slice (some ⟨g8, 0, none⟩) n c8 ∧ u = .int .i64 (p : Int) ∧ RowB w2.heap.size wx g8 n c8 xs ∧ Below w2.heap.size w2 wx)
  case first =>
    go_region_law (first | (go_simp; go_at_call 22; refine (slices_clone a n c xs _ (ha2.keep (by intro q u hq; exact hq)) HN.out (by omega) H0.out).mono ?_; rintro e w8 ⟨v8, rfl, o8, hbel8⟩; obtain ⟨g8, k8, c8, rfl, m1, m2, m3, m4, m5, m6, m7⟩ := o8.full (by have := HN.out; omega); obtain rfl : n = k8 := (by have := HN.out; omega); have k1 : w8.cell? ⟨w.heap.size, 1, none⟩ = some (.int .i64 (p : Int)) := below_keeps hbel8 _ _ c1; have z8 : w.heap.size < w8.heap.size := cell_lt k1))
    all_goals
      have hR : RowB w2.heap.size w8 g8 n c8 xs := Own.rowB (show Own 3 w2.heap.size w8 (.slice (some ⟨g8, 0, none⟩) n c8) xs from o8)
      have hbb : Below w2.heap.size w2 w8 := ⟨hbel8.os, hbel8.tape, hbel8.output, hbel8.size, hbel8.block⟩
      go_wp2
      go_meet
      exact ⟨_, _, rfl, rfl, hR, hbb⟩
  case rest =>
    obtain ⟨g8, c8, rfl, rfl, hR, hbb⟩ := hcut
    have HR0 := Lib.hid hR
    clear c0 c1 hR
    go_wp2
    go_loopw [16, 5, 6] (fun i v u wr => ∃ k g c, i = .int .i64 ((k : Nat) : Int) ∧ v = .slice (some ⟨g, 0, none⟩) n c ∧ u = .int .i64 ((termRun l (xs, p) k).2 : Int) ∧ k ≤ n2 ∧ RowB w2.heap.size wr g n c (termRun l (xs, p) k).1 ∧ Below w2.heap.size w2 wr) (fun i _ _ _ => n2 - (intOf i).toNat)
    case atStart => exact ⟨0, g8, c8, rfl, rfl, rfl, by omega, HR0.out, hbb⟩
    case round =>
      obtain ⟨k, g, c, rfl, rfl, rfl, hk, hR, hbr⟩ := hrel
      clear hbb HR0
      have hlen := termRun_len l (xs, p) k (by have := HN.out; show p ≤ xs.length; omega)
      rw [show (xs, p).1.length = n from HN.out] at hlen
      by_cases hlt : k < n2
      · obtain ⟨b1, o1, rfl, hc0⟩ := hl2.at (k := k) (by rw [HN2.out]; exact hlt)
        have ck : wr.cell? ⟨b1, o1 + k, none⟩ = some (.int .i64 (ix l k)) := by
          have := hc0 k (by rw [HN2.out]; exact hlt)
          rw [hbr.cell (cell_lt this)]; exact this
        have i1 : (k : Int) < (n2 : Int) := by omega
        clear hc0
        have HT : Hid (termRun l (xs, p) (k + 1) = termStep (ix l k) (termRun l (xs, p) k)) := Lib.hid rfl
        obtain ⟨x, hx⟩ : ∃ x, ix l k = x := ⟨_, rfl⟩
        obtain ⟨ys, hys⟩ : ∃ ys, (termRun l (xs, p) k).1 = ys := ⟨_, rfl⟩
        obtain ⟨q, hq⟩ : ∃ q, (termRun l (xs, p) k).2 = q := ⟨_, rfl⟩
        have HT : Hid (termRun l (xs, p) (k + 1) = termStep x (ys, q)) := Lib.hid (by rw [HT.out, hx, ← hys, ← hq])
        rw [hys, hq] at hlen
        rw [hys] at hR
        rw [hx] at ck
        rw [hq]
        obtain ⟨hl1, hqn⟩ := hlen
        have HL := Lib.hid hl1
        have HQ := Lib.hid hq
        clear hys hq hx hl1
        by_cases e8 : x = 8
        · subst e8
          have HS : Hid (termRun l (xs, p) (k + 1) = (ys, q - 1)) := Lib.hid (by rw [HT.out]; rfl)
          by_cases hq0 : q = 0
          · subst hq0
            go_wp2
            go_roundw
            case rel => exact ⟨k + 1, g, c, by go_num, rfl, by rw [HS.out], by omega, by rw [HS.out]; exact hR, hbr⟩
            case measure => simp [intOf]; omega
          · have j1 : decide ((0 : Int) < (q : Int)) = true := by simp; omega
            go_wp2
            go_roundw
            case rel => exact ⟨k + 1, g, c, by go_num, rfl, by rw [HS.out]; go_num, by omega, by rw [HS.out]; exact hR, hbr⟩
            case measure => simp [intOf]; omega
        · by_cases e13 : x = 13
          · subst e13
            have HS : Hid (termRun l (xs, p) (k + 1) = (ys, 0)) := Lib.hid (by rw [HT.out]; rfl)
            go_wp2
            go_roundw
            case rel => exact ⟨k + 1, g, c, by go_num, rfl, by rw [HS.out]; rfl, by omega, by rw [HS.out]; exact hR, hbr⟩
            case measure => simp [intOf]; omega
          · by_cases e11 : x = 11
            · subst e11
              have HS : Hid (termRun l (xs, p) (k + 1) = (ys.take q ++ List.replicate (n - q) 32, q)) := Lib.hid (by rw [HT.out, ← HL.out]; rfl)
              obtain ⟨m, hm⟩ : ∃ m, n - q = m := ⟨_, rfl⟩
              have im : (n : Int) - (q : Int) = (m : Int) := by omega
              have hqm : q + m = n := by omega
              have hrf := rowField
              have iw : IntKind.i64.wrap (m : Int) = (m : Int) := by rw [IntKind.wrap_i64]; omega
              have hqc : q ≤ c := by have := hR.cap; omega
              have hT : (ys.take q).length = q := by rw [List.length_take, HL.out]; omega
              have HT2 := Lib.hid hT
              have iq : (q : Int) ≤ (c : Int) := by omega
              rw [hm] at HS
              clear hm hT HT
              go_wp2
              go_region_law (first | (go_simp; go_at_call 76; refine (ref_blank m _ (by omega)).mono ?_; rintro e w8 ⟨v8, rfl, o8, hbel8⟩; obtain ⟨a8, n8, c8', rfl⟩ := o8.form) | (refine step_app_cut rfl (.tmp 38) (.tmp 44) rfl g q m _ (ys.take q) (List.replicate m 32) (.slice a8 n8 c8') (by simp [Act.eval, Act.put]) ((hR.ints.take q).keep (fun p' u hp => below_keeps hbel8 _ _ hp)) HT2.out (by simp [Act.eval, Act.put]) o8 (by simp) (by omega) ?_; intro v9 w9 hz9 hp9))
              all_goals
                have hb8 : Below wr.heap.size wr w8 := ⟨hbel8.os, hbel8.tape, hbel8.output, hbel8.size, hbel8.block⟩
                have hgl := hR.lt
                have hlo := hR.lo
                have hszr := hbr.size
                obtain ⟨g9, c9, rfl, hR9, hb9⟩ : ∃ g9 c9, v9 = .slice (some ⟨g9, 0, none⟩) n c9 ∧ RowB w2.heap.size w9 g9 n c9 (ys.take q ++ List.replicate m 32) ∧ Below w2.heap.size w2 w9 := by
                  by_cases h00 : m = 0
                  · obtain ⟨rfl, rfl⟩ := hz9 h00
                    obtain rfl : n = q := by omega
                    subst h00
                    have hR8 := hR.below hb8 hgl
                    refine ⟨g, n, rfl, ?_, below_then hbr hbr.size hb8⟩
                    rw [List.replicate_zero, List.append_nil, List.take_of_length_le (by rw [HL.out]; exact Nat.le_refl _)]
                    exact ⟨hR8.lo, hR8.cells, hR8.len, Nat.le_refl _⟩
                  · obtain ⟨g', c', rfl, hR', hb'⟩ := hp9 (by omega)
                    have hz8 := hb8.size
                    refine ⟨g', c', by rw [hqm], ?_, below_then hbr hbr.size (below_then hb8 hb8.size hb')⟩
                    have := hR'.mono (base' := w2.heap.size) (by omega)
                    rwa [hqm] at this
                clear hz9 hp9 hb8 hbel8 o8
                go_simp
                go_wp2
                go_roundw
                case rel => exact ⟨k + 1, g9, c9, by go_num, rfl, by rw [HS.out], by omega, by rw [HS.out]; exact hR9, hb9⟩
                case measure => simp [intOf]; omega
            · by_cases hw : 32 ≤ x ∧ x ≠ 127 ∧ q < n
              · obtain ⟨k1, k2, k3⟩ := hw
                have HS : Hid (termRun l (xs, p) (k + 1) = (ys.set q x, q + 1)) := Lib.hid (by
                  rw [HT.out]; unfold termStep; rw [if_neg e8, if_neg e13, if_neg e11, if_pos ⟨k1, k2, by rw [HL.out]; exact k3⟩])
                have d1 := hR.cell k3
                have d2 := hR.free q
                have b1 : (x == 8) = false := by simpa using e8
                have b2 : (x == 13) = false := by simpa using e13
                have b3 : (x == 11) = false := by simpa using e11
                have b5 : (x != 127) = true := by simpa using k2
                have i2 : (q : Int) < (n : Int) := by omega
                have hlo := hR.lo
                go_wp2
                go_roundw
                case rel => exact ⟨k + 1, g, c, by go_num, rfl, by rw [HS.out]; go_num, by omega, by rw [HS.out]; exact hR.set q x, hbr.setCell (p := ⟨g, q, none⟩) hlo _⟩
                case measure => simp [intOf]; omega
              · have HS : Hid (termRun l (xs, p) (k + 1) = (ys, q)) := Lib.hid (by
                  rw [HT.out]; unfold termStep; rw [if_neg e8, if_neg e13, if_neg e11, if_neg (by rw [HL.out]; exact hw)])
                have b1 : (x == 8) = false := by simpa using e8
                have b2 : (x == 13) = false := by simpa using e13
                have b3 : (x == 11) = false := by simpa using e11
                by_cases k1 : 32 ≤ x
                · by_cases k2 : x = 127
                  · subst k2
                    go_wp2
                    go_roundw
                    case rel => exact ⟨k + 1, g, c, by go_num, rfl, by rw [HS.out], by omega, by rw [HS.out]; exact hR, hbr⟩
                    case measure => simp [intOf]; omega
                  · have b5 : (x != 127) = true := by simpa using k2
                    have i2 : ¬ (q : Int) < (n : Int) := by omega
                    go_wp2
                    go_roundw
                    case rel => exact ⟨k + 1, g, c, by go_num, rfl, by rw [HS.out], by omega, by rw [HS.out]; exact hR, hbr⟩
                    case measure => simp [intOf]; omega
                · go_wp2
                  go_roundw
                  case rel => exact ⟨k + 1, g, c, by go_num, rfl, by rw [HS.out], by omega, by rw [HS.out]; exact hR, hbr⟩
                  case measure => simp [intOf]; omega
      · obtain rfl : n2 = k := by omega
        have hAr := hA.below hbr hz2
        obtain ⟨d0, d1, f0, f1⟩ := hAr.two
        have hlo := hR.lo
        go_wp2
        have hG := ((hAr.set 0 (.slice (some ⟨g, 0, none⟩) n c)).set 1 (.int .i64 ((termRun l (xs, p) n2).2 : Int)))
        obtain ⟨x0, x1, -, -⟩ := Blk.two hG
        refine bodyPost_ret (v := .agg #[.slice (some ⟨g, 0, none⟩) n c, .int .i64 ((termRun l (xs, p) n2).2 : Int)]) (by simp [results, Try.results80, go_sem, x0, x1]) rfl ?_
        refine ⟨g, c, rfl, ((hR.other (by show g ≠ w.heap.size + 1; omega) _).other (by show g ≠ w.heap.size + 1; omega) _).ints, ?_⟩
        exact (((below_then hbel hbel.size hbr)).setCell (p := ⟨w.heap.size + 1, 0, none⟩) (Nat.le_succ _) _).setCell (p := ⟨w.heap.size + 1, 1, none⟩) (Nat.le_succ _) _

end Go.Proofs.Ythnjaichbejifaa
