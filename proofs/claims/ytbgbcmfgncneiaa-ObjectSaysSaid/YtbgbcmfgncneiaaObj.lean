/- Contract of object.run. -/
import Derived.Test.YtbgbcmfgncneiaaWord4
import Derived.Deep.RegionHeld3
import Derived.Deep.LoopGhost
import Derived.Deep.DeepCutAuto
import Derived.Deep.CutBlock
namespace Go.Proofs.Ytbgbcmfgncneiaa
open Go.RowKit
set_option linter.unusedVariables false
set_option linter.unusedSimpArgs false

/-- the run of one kind around place k: from f up to t -/
structure RunP (l : List Int) (big : Bool) (k f t : Nat) : Prop where
  lo : f ≤ k
  hi : k < t
  len : t ≤ l.length
  same : ∀ j, f ≤ j → j < t → kindS (ix l j) big = kindS (ix l k) big
  left : f = 0 ∨ kindS (ix l (f - 1)) big ≠ kindS (ix l k) big
  right : t = l.length ∨ kindS (ix l t) big ≠ kindS (ix l k) big
theorem RunP.one {l : List Int} {big : Bool} {k f t f' t' : Nat} (h : RunP l big k f t) (h' : RunP l big k f' t') : f = f' ∧ t = t' := by
  obtain ⟨a1, a2, a3, a4, a5, a6⟩ := h
  obtain ⟨b1, b2, b3, b4, b5, b6⟩ := h'
  constructor
  · rcases Nat.lt_trichotomy f f' with h | h | h
    · rcases b5 with rfl | b5
      · omega
      · exact absurd (a4 (f' - 1) (by omega) (by omega)) b5
    · exact h
    · rcases a5 with rfl | a5
      · omega
      · exact absurd (b4 (f - 1) (by omega) (by omega)) a5
  · rcases Nat.lt_trichotomy t t' with h | h | h
    · rcases a6 with rfl | a6
      · omega
      · exact absurd (b4 t (by omega) h) a6
    · exact h
    · rcases b6 with rfl | b6
      · omega
      · exact absurd (a4 t' (by omega) h) b6

def RunPost (l : List Int) (big : Bool) (k : Nat) (w : World) (e : Ending) (w' : World) : Prop :=
  ∃ f t : Nat, e = .returned (.agg #[.int .i64 (f : Int), .int .i64 (t : Int)]) ∧ RunP l big k f t ∧ Below w.heap.size w w'

set_option maxRecDepth 100000 in
set_option maxHeartbeats 1000000 in
theorem object_run (a : Option Addr) (n c : Nat) (l : List Int) (big : Bool) (k : Nat) (w : World) (ha : Ints w a l) (hn : l.length = n) (h2 : n ≤ 4096) (hk : k < n) :
    Calls Try.prog 157 #[.slice a n c, .int .i64 (k : Int), .bool big] w (RunPost l big k w) := by
  have HN := Lib.hid hn; clear hn
  obtain ⟨b1, o1, rfl, hc0⟩ := ha.at (k := k) (by rw [HN.out]; exact hk)
  have HC := Lib.hid (show ∀ i, i < n → w.cell? ⟨b1, o1 + i, none⟩ = some (.int .i64 (ix l i)) from fun i hi => hc0 i (by rw [HN.out]; exact hi))
  clear hc0
  have hb := below2 w (.cells #[.int .i64 0, .int .i64 0] 167) (.cells #[.int .i64 (k : Int), .int .i64 (k : Int)] 167)
  have hA := (Blk.new w #[.int .i64 0, .int .i64 0] 167).alloc (.cells #[.int .i64 (k : Int), .int .i64 (k : Int)] 167)
  have hS := Blk.new (w.alloc (.cells #[.int .i64 0, .int .i64 0] 167)) #[.int .i64 (k : Int), .int .i64 (k : Int)] 167
  rw [World.size_alloc] at hS
  have ck := below_keeps hb _ _ (HC.out k hk)
  have ik : (k : Int) < (n : Int) := by omega
  go_enter Try.func157, Try.ntmps157
  go_wp2_with fail
  refine (word_kindOf (ix l k) big _).mono ?_
  rintro e w' ⟨rfl, hww⟩
  rw [← hww]
  clear hww
  generalize (w.alloc (.cells #[.int .i64 0, .int .i64 0] 167)).alloc (.cells #[.int .i64 (k : Int), .int .i64 (k : Int)] 167) = w2 at *
  obtain ⟨kd, hkd⟩ : ∃ kd, kindS (ix l k) big = kd := ⟨_, rfl⟩
  rw [hkd]
  have HKD := Lib.hid hkd
  clear hkd ck
  go_upto_block 0 with fail
  go_cut [] (fun wx => ∃ f : Nat, f ≤ k ∧ (∀ j, f ≤ j → j ≤ k → kindS (ix l j) big = kd) ∧ (f = 0 ∨ kindS (ix l (f - 1)) big ≠ kd) ∧ Blk wx w.heap.size #[.int .i64 0, .int .i64 0] 167 ∧ Blk wx (w.heap.size + 1) #[.int .i64 (f : Int), .int .i64 (k : Int)] 167 ∧ Below w.heap.size w wx)
  case first =>
    go_wp2
    go_loopg [] k (fun g wr => ∃ f : Nat, f ≤ g ∧ f ≤ k ∧ Aside ((∀ j, f ≤ j → j ≤ k → kindS (ix l j) big = kd) ∧ Blk wr w.heap.size #[.int .i64 0, .int .i64 0] 167 ∧ Blk wr (w.heap.size + 1) #[.int .i64 (f : Int), .int .i64 (k : Int)] 167 ∧ Below w.heap.size w wr))
    case atStart =>
      refine ⟨k, by omega, by omega, ?_⟩
      show _ ∧ _
      refine ⟨fun j h1 h2 => ?_, hA, hS, hb⟩
      obtain rfl : j = k := by omega
      exact HKD.out
    case round =>
      obtain ⟨f, hfg, hfk, hrest⟩ := hrel
      obtain ⟨hsame, hAr, hSr, hbr⟩ := show _ ∧ _ from hrest
      clear hrest hA hS hb
      have HSA := Lib.hid hsame
      clear hsame
      obtain ⟨c0, c1, e0, e1⟩ := hSr.two
      by_cases hf0 : f = 0
      · subst hf0
        go_wp2
        go_meet
        exact ⟨0, by omega, HSA.out, .inl rfl, hAr, hSr, hbr⟩
      · have cj := HC.out (f - 1) (by omega)
        rw [← hbr.cell (cell_lt cj)] at cj
        have i1 : (0 : Int) < (f : Int) := by omega
        have i2 : ((f : Int) - 1).toNat = f - 1 := by omega
        have i3 : (0 : Int) ≤ (f : Int) - 1 := by omega
        have i4 : (f : Int) - 1 < (n : Int) := by omega
        go_wp2_with fail
        refine (word_kindOf (ix l (f - 1)) big _).mono ?_
        rintro e w' ⟨rfl, rfl⟩
        by_cases hsm : kindS (ix l (f - 1)) big = kd
        · have HSM := Lib.hid hsm
          rw [hsm]
          clear hsm
          go_wp2
          go_roundg (f - 1)
          case measure => omega
          case rel =>
            refine ⟨f - 1, by omega, by omega, ?_⟩
            show _ ∧ _
            refine ⟨fun j h1 h2 => ?_, hAr.other (by show w.heap.size ≠ w.heap.size + 1; omega) _, ?_, hbr.setCell (p := ⟨w.heap.size + 1, 0, none⟩) (Nat.le_succ _) _⟩
            · by_cases e : j = f - 1
              · rw [e]; exact HSM.out
              · exact HSA.out j (by omega) h2
            · rw [show ((f - 1 : Nat) : Int) = (f : Int) - 1 from by omega]; exact hSr.set 0 (.int .i64 ((f : Int) - 1))
        · have b1' : (kindS (ix l (f - 1)) big == kd) = false := by simpa using hsm
          have HSM := Lib.hid hsm
          clear hsm
          go_wp2
          go_meet
          exact ⟨f, hfk, HSA.out, .inr HSM.out, hAr, hSr, hbr⟩
  clear hA hS hb
  obtain ⟨f, hfk, hsame, hleft, hA, hS, hb⟩ := hcut
  have HSA := Lib.hid hsame; have HLE := Lib.hid hleft
  clear hsame hleft
  go_wp2
  go_loopg [] (n - k) (fun g wr => ∃ t : Nat, n - t ≤ g ∧ k ≤ t ∧ t ≤ n ∧ Aside ((∀ j, f ≤ j → j < t → kindS (ix l j) big = kd) ∧ Blk wr w.heap.size #[.int .i64 0, .int .i64 0] 167 ∧ Blk wr (w.heap.size + 1) #[.int .i64 (f : Int), .int .i64 (t : Int)] 167 ∧ Below w.heap.size w wr))
  case atStart =>
    refine ⟨k, by omega, by omega, by omega, ?_⟩
    show _ ∧ _
    exact ⟨fun j h1 h2 => HSA.out j h1 (by omega), hA, hS, hb⟩
  case round =>
    clear hA hS hb
    obtain ⟨t, htg, hkt, htn, hrest⟩ := hrel
    obtain ⟨hsame, hAr, hSr, hbr⟩ := show _ ∧ _ from hrest
    clear hrest
    have HST := Lib.hid hsame
    clear hsame
    obtain ⟨c0, c1, e0, e1⟩ := hSr.two
    obtain ⟨d0, d1, f0, f1⟩ := hAr.two
    by_cases hlt : t < n
    · have cj := HC.out t hlt
      rw [← hbr.cell (cell_lt cj)] at cj
      have i1 : (t : Int) < (n : Int) := by omega
      go_wp2_with fail
      refine (word_kindOf (ix l t) big _).mono ?_
      rintro e w' ⟨rfl, rfl⟩
      by_cases hsm : kindS (ix l t) big = kd
      · have HSM := Lib.hid hsm
        rw [hsm]
        clear hsm
        go_wp2
        go_roundg (n - (t + 1))
        case measure => omega
        case rel =>
          refine ⟨t + 1, by omega, by omega, by omega, ?_⟩
          show _ ∧ _
          refine ⟨fun j h1 h2 => ?_, hAr.other (by show w.heap.size ≠ w.heap.size + 1; omega) _, hSr.set 1 (.int .i64 ((t + 1 : Nat) : Int)), hbr.setCell (p := ⟨w.heap.size + 1, 1, none⟩) (Nat.le_succ _) _⟩
          by_cases e : j = t
          · rw [e]; exact HSM.out
          · exact HST.out j h1 (by omega)
      · have b1' : (kindS (ix l t) big == kd) = false := by simpa using hsm
        have HSM := Lib.hid hsm
        have hkt2 : k < t := by
          rcases Nat.lt_or_ge k t with h | h
          · exact h
          · obtain rfl : t = k := by omega
            exact absurd HKD.out hsm
        clear hsm
        go_wp2
        obtain ⟨y0, y1, -, -⟩ := Blk.two ((hAr.set 0 (.int .i64 (f : Int))).set 1 (.int .i64 (t : Int)))
        refine bodyPost_ret (v := .agg #[.int .i64 (f : Int), .int .i64 (t : Int)]) (by simp [results, Try.results157, go_sem, y0, y1]) rfl ?_
        exact ⟨f, t, rfl, ⟨hfk, hkt2, by rw [HN.out]; omega, fun j h1 h2 => by rw [HKD.out]; exact HST.out j h1 h2, by rw [HKD.out]; exact HLE.out, .inr (by rw [HKD.out]; exact HSM.out)⟩, (hbr.setCell (p := ⟨w.heap.size, 0, none⟩) (Nat.le_refl _) _).setCell (p := ⟨w.heap.size, 1, none⟩) (Nat.le_refl _) _⟩
    · obtain rfl : n = t := by omega
      go_wp2
      obtain ⟨y0, y1, -, -⟩ := Blk.two ((hAr.set 0 (.int .i64 (f : Int))).set 1 (.int .i64 (n : Int)))
      refine bodyPost_ret (v := .agg #[.int .i64 (f : Int), .int .i64 (n : Int)]) (by simp [results, Try.results157, go_sem, y0, y1]) rfl ?_
      exact ⟨f, n, rfl, ⟨hfk, hk, by rw [HN.out]; omega, fun j h1 h2 => by rw [HKD.out]; exact HST.out j h1 h2, by rw [HKD.out]; exact HLE.out, .inl HN.out.symm⟩, (hbr.setCell (p := ⟨w.heap.size, 0, none⟩) (Nat.le_refl _) _).setCell (p := ⟨w.heap.size, 1, none⟩) (Nat.le_refl _) _⟩

end Go.Proofs.Ytbgbcmfgncneiaa
