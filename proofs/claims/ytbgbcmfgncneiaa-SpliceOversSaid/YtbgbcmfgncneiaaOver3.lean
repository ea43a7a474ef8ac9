/- The reader of splice.Over in memory; contract of its method. -/
import Derived.Test.YtbgbcmfgncneiaaOver2
import Derived.Test.YtbgbcmfgncneiaaMark2
namespace Go.Proofs.Ytbgbcmfgncneiaa
open Go.RowKit
set_option linter.unusedVariables false
set_option linter.unusedSimpArgs false

/-- where a cut of splices from 1 on begins -/
def scutA (a : Option Addr) (c : Nat) : Option Addr := if c = 1 then a else a.map (·.add (1 * 3))
theorem info_spl3 : (Try.prog.info? 127).map (fun i => (i.zero, i.size, i.bytes)) = some (some (.agg #[.int .i64 0, .int .i64 0, .slice none 0 0]), 3, 40) := by kernel_rfl
theorem scut_run1 (a : Option Addr) (n c : Nat) (h1 : 1 ≤ n) (h2 : n ≤ c) (w : World) :
    (Instr.slice 22 (.slice a n c) (some (.int .i64 1)) none none).run Try.prog w = .ok (.slice (scutA a c) (n - 1) (c - 1)) w := by
  obtain ⟨i0, hi0, hz0, hz1, hz2⟩ := info_parts info_spl3
  have b1 : (1 : Int) ≤ (n : Int) := by omega
  simp [Instr.slice, Instr.sliceBounds, Instr.sliceBound, asIntOf, run_underlying Try.underlying22, sizeOf, typeInfo, hi0, hz1, b1, go_sem, scutA, h1]
theorem Spls.cut1 {w : World} {a : Option Addr} {s : Sp} {r : List Sp} {c : Nat} (h : Spls w a (s :: r)) (hc : (s :: r).length ≤ c) : Spls w (scutA a c) r := by
  rcases h with h | ⟨b, o, rfl, h⟩
  · simp at h
  · cases r with
    | nil => exact .inl rfl
    | cons s2 r2 =>
      have hc1 : ¬ c = 1 := by simp at hc; omega
      refine .inr ⟨b, o + 3, ?_, fun i hi => ?_⟩
      · unfold scutA; rw [if_neg hc1]
        have hadd : (⟨b, o, none⟩ : Addr).add (1 * 3) = ⟨b, o + 3, none⟩ := by unfold Addr.add; split <;> simp_all
        simp [hadd]
      · have := h (i + 1) (by simpa using hi)
        rw [show o + (i + 1) * 3 = o + 3 + i * 3 from by omega] at this
        simpa [sp] using this
theorem scutA_none {a : Option Addr} {c : Nat} (h : scutA a c = none) : a = none := by
  unfold scutA at h
  split at h
  · exact h
  · cases a <;> simp_all

/-- a reader in block X: what it has before it, as it read at the beginning -/
def RAt (w0 w : World) (X : Nat) (es : List Sp) : Prop := ∃ a n c, Blk w X #[.slice a n c] 145 ∧ Spls w0 a es ∧ es.length = n ∧ n ≤ c ∧ c ≤ 9223372036854775807 ∧ w0.heap.size ≤ X
def ReadPost (w0 : World) (X : Nat) (es : List Sp) (i : Int) (w : World) (e : Ending) (w' : World) : Prop := ∃ ta tn tc, e = .returned (.tuple #[.slice ta tn tc, .bool (readB i (rest i es))]) ∧ Rd w0 ta tn tc (readT i (rest i es)) ∧
  RAt w0 w' X (rest i es) ∧ Below w0.heap.size w0 w' ∧ w.grownBy w' (some X)
theorem Rd.zero (w : World) : Rd w none 0 0 [] := ⟨.inl rfl, rfl, by omega, by omega, fun _ => rfl⟩

theorem grownBy_refl (w : World) (r : Option Nat) : w.grownBy w r := ⟨rfl, rfl, rfl, Nat.le_refl _, fun _ _ _ => rfl⟩
theorem grownBy_set {w w' : World} {X : Nat} (h : w.grownBy w' (some X)) (v : Value) : w.grownBy (w'.setCell ⟨X, 0, none⟩ v) (some X) := by
  refine ⟨h.1, h.2, h.3, by rw [size_setCell]; exact h.4, fun k hk hne => ?_⟩
  rw [Below.heap_setCell _ _ _ _ (by intro hc; exact hne (by simp [hc]))]
  exact h.5 k hk hne
theorem grownBy_drewN {w w' : World} {r : Option Nat} (h : w.grownBy w' r) (n : Nat) : w.grownBy (w'.drewN n) r := ⟨h.1, h.2, h.3, h.4, h.5⟩
theorem grownBy_alloc {w w' : World} {r : Option Nat} (h : w.grownBy w' r) (o : Obj) : w.grownBy (w'.alloc o) r := by
  refine ⟨h.1, h.2, h.3, by rw [World.size_alloc]; have := h.4; omega, fun k hk hne => ?_⟩
  rw [Below.heap_alloc _ _ _ (by have := h.4; omega)]
  exact h.5 k hk hne

theorem ReadPost.of {w0 : World} {X : Nat} {es q : List Sp} {i : Int} {w w' : World} {b : Bool} {ta : Option Addr} {tn tc : Nat} (hq : rest i es = q) (hb : b = readB i q) (h1 : Rd w0 ta tn tc (readT i q)) (h2 : RAt w0 w' X q) (h3 : Below w0.heap.size w0 w') (h4 : w.grownBy w' (some X)) :
    ReadPost w0 X es i w (.returned (.tuple #[.slice ta tn tc, .bool b])) w' := by
  subst hq hb; exact ⟨ta, tn, tc, rfl, h1, h2, h3, h4⟩

set_option maxRecDepth 100000 in
set_option maxHeartbeats 2000000 in
theorem reader_at (w0 : World) (X : Nat) (es : List Sp) (i : Int) (w : World) (h : RAt w0 w X es) (hbw : Below w0.heap.size w0 w) :
    Calls Try.prog 95 #[.pointer (some ⟨X, 0, none⟩), .int .i64 i] w (ReadPost w0 X es i w) := by
  obtain ⟨a0, n0, c0', hX0, hs0, hl0, hn0, hc0', hbX⟩ := h
  have HX0 := Lib.hid hX0
  have HS0 := Lib.hid hs0
  have HL0 := Lib.hid hl0
  clear hX0 hs0 hl0
  go_enter Try.func95, Try.ntmps95
  go_upto_block 0 with fail
  go_cut [4, 5] (fun v u wr => v = .slice none 0 0 ∧ u = .bool false ∧ ∃ (a : Option Addr) (n c : Nat) (es' : List Sp), Blk wr X #[.slice a n c] 145 ∧ Hid (Spls w0 a es') ∧ Hid (es'.length = n) ∧ n ≤ c ∧ c ≤ 9223372036854775807 ∧ Hid (es' = rest i es) ∧
    Below w0.heap.size w0 wr ∧ Hid (w.grownBy wr (some X)))
  case first =>
    go_wp2
    go_loopw [46] (fun v wr => ∃ (a : Option Addr) (n c : Nat) (es' : List Sp), Blk wr X #[.slice a n c] 145 ∧ Hid (Spls w0 a es') ∧ Hid (es'.length = n) ∧ n ≤ c ∧ c ≤ 9223372036854775807 ∧ Hid (rest i es' = rest i es) ∧
      Below w0.heap.size w0 wr ∧ Hid (w.grownBy wr (some X))) (fun _ wr => match wr.cell? ⟨X, 0, none⟩ with | some (.slice _ n _) => n | _ => 0)
    case atStart => exact ⟨a0, n0, c0', es, HX0.out, HS0, HL0, hn0, hc0', Lib.hid rfl, hbw, Lib.hid (grownBy_refl _ _)⟩
    case round =>
      obtain ⟨a, n, c, es', hX, HS, HL, hnc, hc2, HR, hbr, HG⟩ := hrel
      obtain ⟨cx, fx⟩ := hX.one
      cases es' with
      | nil =>
        obtain rfl : 0 = n := HL.out
        go_wp2
        go_meet
        exact ⟨rfl, rfl, a, 0, c, [], hX, HS, HL, hnc, hc2, HR, hbr, HG⟩
      | cons s r =>
        have hn1 : 1 ≤ n := by have := HL.out; simp at this; omega
        obtain ⟨b1, o1, rfl, hcc⟩ := HS.out.at (k := 0) (by simp)
        obtain ⟨ax, cx', c0, c1, c2, cI, y1, y2, y3⟩ := (hcc 0 (by simp)).keep (below_keeps hbr)
        simp only [Nat.zero_mul, Nat.add_zero] at c0 c1 c2
        have hsp0 : sp (s :: r) 0 = s := rfl
        rw [hsp0] at c0 c1 c2
        have hp : pastB i s = (decide (s.t < i) || (decide (s.t = i) && decide (s.f < i))) := rfl
        obtain ⟨f, t, x⟩ := s
        simp only at c0 c1 c2 hp
        have i0 : (0 : Int) < (n : Int) := by omega
        have hcr := scut_run1 (some ⟨b1, o1, none⟩) n c hn1 hnc
        have hXn := hX.set 0 (.slice (scutA (some ⟨b1, o1, none⟩) c) (n - 1) (c - 1))
        have hbn := hbr.setCell (p := ⟨X, 0, none⟩) hbX (.slice (scutA (some ⟨b1, o1, none⟩) c) (n - 1) (c - 1))
        have HGn := Lib.hid (grownBy_set HG.out (.slice (scutA (some ⟨b1, o1, none⟩) c) (n - 1) (c - 1)))
        have HSn := Lib.hid (HS.out.cut1 (c := c) (by rw [HL.out]; exact hnc))
        have HLn := Lib.hid (show r.length = n - 1 by have := HL.out; simp at this; omega)
        have hpast : pastB i ⟨f, t, x⟩ = true → rest i r = rest i es := fun h => by rw [← HR.out, rest, if_pos h]
        have hstay : pastB i ⟨f, t, x⟩ = false → (⟨f, t, x⟩ :: r : List Sp) = rest i es := fun h => by rw [← HR.out, rest, if_neg (by rw [h]; simp)]
        have HPA := Lib.hid hpast
        have HST := Lib.hid hstay
        clear hpast hstay
        obtain ⟨cn, -⟩ := hXn.one
        by_cases h1 : t < i
        · have HP := Lib.hid (show pastB i ⟨f, t, x⟩ = true by rw [hp]; simp; omega)
          clear hp
          go_wp2
          go_roundw
          case rel => exact ⟨_, n - 1, c - 1, r, hXn, HSn, HLn, by omega, by omega, Lib.hid (HPA.out HP.out), hbn, HGn⟩
          case measure => simp [cx, cn]; omega
        · have h1' : decide (t < i) = false := by simp; omega
          obtain ⟨z, hz⟩ : ∃ z, (t == i) = z := ⟨_, rfl⟩
          cases z with
          | false =>
            have hne : t ≠ i := by simpa using hz
            have HP := Lib.hid (show pastB i ⟨f, t, x⟩ = false by rw [hp]; simp; omega)
            clear hp hne
            go_wp2
            go_meet
            exact ⟨rfl, rfl, _, n, c, _, hX, HS, HL, hnc, hc2, Lib.hid (HST.out HP.out), hbr, HG⟩
          | true =>
            have heq : t = i := by simpa using hz
            by_cases h2 : f < i
            · have HP := Lib.hid (show pastB i ⟨f, t, x⟩ = true by rw [hp]; simp; omega)
              clear hp heq
              go_wp2
              go_roundw
              case rel => exact ⟨_, n - 1, c - 1, r, hXn, HSn, HLn, by omega, by omega, Lib.hid (HPA.out HP.out), hbn, HGn⟩
              case measure => simp [cx, cn]; omega
            · have h2' : decide (f < i) = false := by simp; omega
              have HP := Lib.hid (show pastB i ⟨f, t, x⟩ = false by rw [hp]; simp; omega)
              clear hp heq
              go_wp2
              go_meet
              exact ⟨rfl, rfl, _, n, c, _, hX, HS, HL, hnc, hc2, Lib.hid (HST.out HP.out), hbr, HG⟩
  obtain ⟨rfl, rfl, a, n, c, es', hX, HS, HL, hnc, hc2, HR, hbr, HG⟩ := hcut
  have HQ := Lib.hid (show rest i es = es' from HR.out.symm)
  clear HR
  obtain ⟨cx, fx⟩ := hX.one
  have HRA := Lib.hid (show RAt w0 wc X es' from ⟨a, n, c, hX, HS.out, HL.out, hnc, hc2, hbX⟩)
  cases es' with
  | nil =>
    obtain rfl : 0 = n := HL.out
    go_wp2
    go_ret2
    exact ReadPost.of HQ.out rfl (Rd.zero _) HRA.out hbr HG.out
  | cons s r =>
    have hn1 : 1 ≤ n := by have := HL.out; simp at this; omega
    obtain ⟨b1, o1, rfl, hcc⟩ := HS.out.at (k := 0) (by simp)
    obtain ⟨ax, cx', c0, c1, c2, cI, y1, y2, y3⟩ := hcc 0 (by simp)
    simp only [Nat.zero_mul, Nat.add_zero] at c0 c1 c2
    have hsp0 : sp (s :: r) 0 = s := rfl
    rw [hsp0] at c0 c1 c2 cI y1 y3
    replace c0 := below_keeps hbr _ _ c0
    replace c1 := below_keeps hbr _ _ c1
    replace c2 := below_keeps hbr _ _ c2
    obtain ⟨f, t, x⟩ := s
    simp only at c0 c1 c2 cI y1 y3
    have i0 : (0 : Int) < (n : Int) := by omega
    clear hsp0 hcc
    by_cases h1 : i < f
    · have HRT := Lib.hid (show readT i (⟨f, t, x⟩ :: r) = [] by simp [readT]; omega)
      have HRB := Lib.hid (show readB i (⟨f, t, x⟩ :: r) = false by simp [readB]; omega)
      go_wp2
      go_ret2
      exact ReadPost.of HQ.out (by rw [HRB.out]) (by rw [HRT.out]; exact Rd.zero _) HRA.out hbr HG.out
    · have h1' : decide (i < f) = false := by simp; omega
      have hbA := hbr.alloc hbr.size (.cells #[.int .i64 f, .int .i64 t, .slice ax x.length cx'] 127)
      have HGA := Lib.hid (grownBy_alloc HG.out (.cells #[.int .i64 f, .int .i64 t, .slice ax x.length cx'] 127))
      have HRA2 := Lib.hid (show RAt w0 (wc.alloc (.cells #[.int .i64 f, .int .i64 t, .slice ax x.length cx'] 127)) X (⟨f, t, x⟩ :: r) from ⟨_, n, c, hX.alloc _, HS.out, HL.out, hnc, hc2, hbX⟩)
      have HRB := Lib.hid (show readB i (⟨f, t, x⟩ :: r) = decide (i < t) by simp [readB]; omega)
      by_cases h2 : f = i
      · have HRT := Lib.hid (show readT i (⟨f, t, x⟩ :: r) = x by simp [readT, h2])
        have g : (f == i) = true := by simpa using h2
        clear h2
        go_wp2
        go_quiet (fail)
        go_wp2
        go_ret2
        exact ReadPost.of HQ.out (by rw [HRB.out]) (by rw [HRT.out]; exact ⟨cI, rfl, y1, y2, y3⟩) HRA2.out (below_drewN hbA _) (grownBy_drewN HGA.out _)
      · have HRT := Lib.hid (show readT i (⟨f, t, x⟩ :: r) = [] by simp [readT, h2])
        have g : (f == i) = false := by simpa using h2
        clear h2
        go_wp2
        go_quiet (fail)
        go_wp2
        go_ret2
        exact ReadPost.of HQ.out (by rw [HRB.out]) (by rw [HRT.out]; exact Rd.zero _) HRA2.out (below_drewN hbA _) (grownBy_drewN HGA.out _)

end Go.Proofs.Ytbgbcmfgncneiaa
