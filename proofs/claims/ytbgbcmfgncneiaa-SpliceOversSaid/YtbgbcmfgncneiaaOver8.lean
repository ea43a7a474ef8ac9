/- Contract of fairref.Over. -/
import Derived.Test.YtbgbcmfgncneiaaOver5
import Derived.Test.YtbgbcmfgncneiaaOver7
namespace Go.Proofs.Ytbgbcmfgncneiaa
open Go.RowKit
set_option linter.unusedVariables false
set_option linter.unusedSimpArgs false

def ROvPost (n : Nat) (ea eb : List Sp) (ahead : Bool) (w : World) (e : Ending) (w' : World) : Prop := ∃ v us, e = .returned v ∧ SOwn w.heap.size w' v us (ovP n ea eb ahead) ∧ Below w.heap.size w w'
theorem GOwn.mono {base base' : Nat} {w : World} {v : Value} {l : List Sg} (h : GOwn base w v l) (hb : base' ≤ base) : GOwn base' w v l := by
  refine ⟨h.1, ?_⟩
  rcases h.2 with hn | ⟨g, cap, cur, rfl, hb', rest⟩
  · exact .inl hn
  · exact .inr ⟨g, cap, cur, rfl, by omega, rest⟩
theorem sig_next {x : List Int} {j : Nat} (h : j < x.length) : (x.take (j + 1)).map (Sg.mk 2) = (x.take j).map (Sg.mk 2) ++ [⟨2, ix x j⟩] := by
  rw [List.take_succ_eq_append_getElem h, List.map_append, ix_eq h]; rfl
theorem GOwn.disBelow {base : Nat} {w w' : World} {v1 v2 : Value} {l m : List Sg} (h : GOwn base w v1 l) (h2 : GOwn w.heap.size w' v2 m) : Dis v1 v2 := by
  intro k hk hc
  have := (World.ownsRow.lt h k hk).2
  have := (World.ownsRow.lt h2 k hc).1
  omega

def tailG (n : Int) (k : Nat) (gA gB : Bool) : List Sg := if (k : Int) < n ∧ gB = false then [⟨if gA = true then 1 else 0, 0⟩] else []
theorem sg_t {n : Int} {ea eb : List Sp} {k : Nat} {l : List Sg} {x y : List Int} {gA gB : Bool} (hl : l = signsP n ea eb true k) (hx : txtP k [] ea = x) (hy : txtP k [] eb = y) (hA : goesB ea k = gA) (hB : goesB eb k = gB) :
    ((l ++ x.map (Sg.mk 2)) ++ List.replicate y.length ⟨0, 0⟩) ++ tailG n k gA gB = signsP n ea eb true (k + 1) := by
  subst hl hx hy hA hB
  simp [signsP, segP, tailG, List.append_assoc]
theorem sg_f {n : Int} {ea eb : List Sp} {k : Nat} {l : List Sg} {x y : List Int} {gA gB : Bool} (hl : l = signsP n ea eb false k) (hx : txtP k [] ea = x) (hy : txtP k [] eb = y) (hA : goesB ea k = gA) (hB : goesB eb k = gB) :
    ((l ++ List.replicate y.length ⟨0, 0⟩) ++ x.map (Sg.mk 2)) ++ tailG n k gA gB = signsP n ea eb false (k + 1) := by
  subst hl hx hy hA hB
  simp [signsP, segP, tailG, List.append_assoc]
theorem segP_h (n : Int) (a b : List Sp) (ahead : Bool) (i : Int) : ∀ s ∈ segP n a b ahead i, s.h = 0 ∨ s.h = 1 ∨ s.h = 2 := by
  intro s hs
  unfold segP at hs
  simp only [List.mem_append] at hs
  rcases hs with ((hs | hs) | hs) | hs
  · split at hs
    · obtain ⟨c, -, rfl⟩ := List.mem_map.1 hs; simp
    · simp at hs
  · have := List.eq_of_mem_replicate hs; subst this; simp
  · split at hs
    · simp at hs
    · obtain ⟨c, -, rfl⟩ := List.mem_map.1 hs; simp
  · split at hs
    · simp at hs; subst hs; simp only; split <;> simp
    · simp at hs
theorem signsP_h (n : Int) (a b : List Sp) (ahead : Bool) (k : Nat) : ∀ s ∈ signsP n a b ahead k, s.h = 0 ∨ s.h = 1 ∨ s.h = 2 := by
  induction k with
  | zero => simp [signsP]
  | succ k ih =>
    intro s hs
    rw [signsP, List.mem_append] at hs
    rcases hs with hs | hs
    · exact ih s hs
    · exact segP_h n a b ahead k s hs

set_option maxRecDepth 100000 in
set_option maxHeartbeats 4000000 in
theorem ref_over_t (n : Nat) (aa ab : Option Addr) (m1 c1 m2 c2 : Nat) (ea eb : List Sp) (w : World)
    (ha : Spls w aa ea) (hm1 : ea.length = m1) (hmc1 : m1 ≤ 9223372036854775807) (hb : Spls w ab eb) (hm2 : eb.length = m2) (hmc2 : m2 ≤ 9223372036854775807)
    (hok1 : ckE n ea = 0) (hok2 : ckE n eb = 0) :
    Calls Try.prog 39 #[.int .i64 n, .slice aa m1 c1, .slice ab m2 c2, .bool true] w (ROvPost n ea eb true w) := by
  obtain ⟨g1, g2, hg1, -⟩ := ckE_good hok1
  obtain ⟨-, -, hg2, -⟩ := ckE_good hok2
  have HG1 := Lib.hid hg1
  have HG2 := Lib.hid hg2
  have HM1 := Lib.hid hm1
  have HM2 := Lib.hid hm2
  clear hg1 hg2 hok1 hok2 hm1 hm2
  have iw1 : IntKind.i64.wrap ((n : Int) + 1) = (n : Int) + 1 := IntWalk.i64_in _ (by omega)
  go_enter Try.func39, Try.ntmps39
  go_wp2
  go_loopw [9, 21] (fun v i wr => ∃ (k : Nat) (l : List Sg), i = .int .i64 (k : Int) ∧ k ≤ n + 1 ∧ GOwn w.heap.size wr v l ∧ Hid (l = signsP n ea eb true k) ∧ l.length ≤ k * 8193 ∧ Below w.heap.size w wr) (fun _ i _ => n + 1 - (intOf i).toNat)
  case atStart => exact ⟨0, [], rfl, by omega, GOwn.nil _ _, Lib.hid rfl, by simp, Below.refl _ _⟩
  case round =>
    obtain ⟨k, l, rfl, hk, hown, HL, hll, hbr⟩ := hrel
    by_cases hlt : k < n + 1
    · have i1 : (k : Int) < (n : Int) + 1 := by omega
      go_wp2_with fail
      refine (ref_at aa m1 c1 ea k wr (ha.below hbr) HM1.out hmc1).mono ?_
      rintro e w4 ⟨ta, tn, tc, rfl, hrd1, hb4⟩
      generalize hgA : goesB ea (k : Int) = gA
      have HGA := Lib.hid hgA
      clear hgA
      have hown4 := hown.below hb4
      have hbr4 := below_then hbr hbr.size hb4
      clear hown hbr
      go_wp2_with fail
      refine (ref_at ab m2 c2 eb k w4 (hb.below hbr4) HM2.out hmc2).mono ?_
      rintro e w5 ⟨sa, sn, sc, rfl, hrd2, hb5⟩
      generalize hgB : goesB eb (k : Int) = gB
      have HGB := Lib.hid hgB
      clear hgB
      have hown5 := hown4.below hb5
      have hbr5 := below_then hbr4 hbr4.size hb5
      replace hrd1 := hrd1.below hb5
      clear hown4 hbr4
      have hxl := txtP_len HG1.out (x := []) (by simp) (k : Int)
      have hyl := txtP_len HG2.out (x := []) (by simp) (k : Int)
      obtain ⟨x, hx⟩ : ∃ x, txtP (k : Int) [] ea = x := ⟨_, rfl⟩
      obtain ⟨y, hy⟩ : ∃ y, txtP (k : Int) [] eb = y := ⟨_, rfl⟩
      rw [hx] at hrd1 hxl
      rw [hy] at hrd2 hyl
      have HX := Lib.hid hx
      have HY := Lib.hid hy
      have htn := hrd1.x
      have hsn := hrd2.x
      have HTN := Lib.hid htn
      have HSN := Lib.hid hsn
      rw [htn] at hxl
      rw [hsn] at hyl
      clear hx hy htn hsn hrd2
      go_wp2
      go_loopw [15, 38] (fun v i wr => ∃ (j : Nat), i = .int .i64 (j : Int) ∧ j ≤ tn ∧ GOwn w5.heap.size wr v ((x.take j).map (Sg.mk 2)) ∧ Below w5.heap.size w5 wr) (fun _ i _ => tn - (intOf i).toNat)
      case atStart => exact ⟨0, rfl, by omega, GOwn.nil _ _, Below.refl _ _⟩
      case round =>
        obtain ⟨j, rfl, hj, hput, hb6⟩ := hrel
        by_cases hlt2 : j < tn
        · have hjx : j < x.length := by rw [HTN.out]; exact hlt2
          have hI := hrd1.1.below hb6
          rcases hI with hI | ⟨bt, ot, rfl, hc⟩
          · subst hI; simp at hjx
          have cj := hc j hjx
          have HNX := Lib.hid (sig_next hjx)
          have i2 : (j : Int) < (tn : Int) := by omega
          have hz6 := hb6.size
          go_wp2_with (at_builtin; refine gapp1 rfl _ _ rfl w5.heap.size _ _ ⟨2, ix x j⟩ _ rfl rfl (hput.alloc _) (Blk.new _ _ _) (by simp; omega) (size_alloc_le hz6 _) ?_; intro v7 w7 hown7 hgrow7 _)
          go_roundw
          case rel => exact ⟨j + 1, by go_num, by omega, by rw [HNX.out]; exact hown7, (hb6.alloc hz6 _).grown hgrow7 (size_alloc_le hz6 _) hput.row⟩
          case measure => simp [intOf]; omega
        · obtain rfl : tn = j := by omega
          rw [List.take_of_length_le (by rw [HTN.out]; exact Nat.le_refl _)] at hput
          have hown6 := hown5.below hb6
          have hd6 := hown5.disBelow hput
          have hbr6 := below_then hbr5 hbr5.size hb6
          have hput6 := hput.mono hbr5.size
          have hz6 := hbr6.size
          clear hown5 hput hb6 hrd1
          go_wp2_with (at_builtin; refine gappR rfl _ _ rfl w.heap.size _ _ l (x.map (Sg.mk 2)) rfl rfl hown6 hput6 (by simp [HTN.out]; omega) hz6 ?_; intro v7 w7 hown7 hgrow7)
          have hbr7 := hbr6.grown hgrow7 hz6 hown6.row
          clear hown6 hput6 hd6 hbr6
          go_loopw [9, 54] (fun v i wr => ∃ (j : Nat), i = .int .i64 (j : Int) ∧ j ≤ sn ∧ GOwn w.heap.size wr v ((l ++ x.map (Sg.mk 2)) ++ List.replicate j ⟨0, 0⟩) ∧ Below w.heap.size w wr) (fun _ i _ => sn - (intOf i).toNat)
          case atStart => exact ⟨0, rfl, by omega, by simpa using hown7, hbr7⟩
          case round =>
            obtain ⟨j, rfl, hj2, hrow, hb8⟩ := hrel
            have hz8 := hb8.size
            by_cases hlt3 : j < sn
            · have i2 : (j : Int) < (sn : Int) := by omega
              go_wp2_with (at_builtin; refine gapp1 rfl _ _ rfl w.heap.size _ _ ⟨0, 0⟩ _ rfl rfl (hrow.alloc _) (Blk.new _ _ _) (by simp [HTN.out]; omega) (size_alloc_le hz8 _) ?_; intro v9 w9 hown9 hgrow9 _)
              go_roundw
              case rel => exact ⟨j + 1, by go_num, by omega, by rw [List.replicate_succ', ← List.append_assoc]; exact hown9, (hb8.alloc hz8 _).grown hgrow9 (size_alloc_le hz8 _) hrow.row⟩
              case measure => simp [intOf]; omega
            · obtain rfl : sn = j := by omega
              have HNN := Lib.hid (sg_t HL.out HX.out HY.out HGA.out HGB.out)
              rw [HSN.out] at HNN
              have hlen : ((l ++ x.map (Sg.mk 2)) ++ List.replicate sn (⟨0, 0⟩ : Sg)).length ≤ k * 8193 + 8192 := by simp [HTN.out]; omega
              generalize (l ++ x.map (Sg.mk 2)) ++ List.replicate sn (⟨0, 0⟩ : Sg) = l2 at *
              clear hown7 hbr7 hz6 HL
              by_cases hkn : k < n
              · have i3 : (k : Int) < (n : Int) := by omega
                cases gB with
                | true =>
                  go_wp2
                  go_roundw
                  case rel => exact ⟨k + 1, l2, by go_num, by omega, hrow, Lib.hid (by rw [← HNN.out]; simp [tailG]), by omega, hb8⟩
                  case measure => simp [intOf]; omega
                | false =>
                  cases gA with
                  | true =>
                    go_wp2_with (at_builtin; refine gapp1 rfl _ _ rfl w.heap.size _ _ ⟨1, 0⟩ _ rfl rfl (hrow.alloc _) (Blk.new _ _ _) (by omega) (size_alloc_le hz8 _) ?_; intro v9 w9 hown9 hgrow9 _)
                    go_roundw
                    case rel => exact ⟨k + 1, _, by go_num, by omega, hown9, Lib.hid (by rw [← HNN.out]; simp [tailG, hkn]), by simp; omega, (hb8.alloc hz8 _).grown hgrow9 (size_alloc_le hz8 _) hrow.row⟩
                    case measure => simp [intOf]; omega
                  | false =>
                    go_wp2_with (at_builtin; refine gapp1 rfl _ _ rfl w.heap.size _ _ ⟨0, 0⟩ _ rfl rfl (hrow.alloc _) (Blk.new _ _ _) (by omega) (size_alloc_le hz8 _) ?_; intro v9 w9 hown9 hgrow9 _)
                    go_roundw
                    case rel => exact ⟨k + 1, _, by go_num, by omega, hown9, Lib.hid (by rw [← HNN.out]; simp [tailG, hkn]), by simp; omega, (hb8.alloc hz8 _).grown hgrow9 (size_alloc_le hz8 _) hrow.row⟩
                    case measure => simp [intOf]; omega
              · have i3 : decide ((k : Int) < (n : Int)) = false := by simp; omega
                go_wp2
                go_roundw
                case rel => exact ⟨k + 1, l2, by go_num, by omega, hrow, Lib.hid (by rw [← HNN.out]; simp [tailG, hkn]), by omega, hb8⟩
                case measure => simp [intOf]; omega
    · have i1 : decide ((k : Int) < (n : Int) + 1) = false := by simp; omega
      have HKN := Lib.hid (show k = n + 1 by omega)
      obtain ⟨va, vc, rfl, hvc, hvc2, -⟩ := hown.form
      have hsg := hown.sgs.1
      have hh := signsP_h n ea eb true k
      rw [← HL.out] at hh
      have HH := Lib.hid hh
      clear hh
      go_wp2_with fail
      refine (ref_folded va l.length vc l wr hsg rfl (by omega) HH.out).mono ?_
      rintro e w4 ⟨v4, us, rfl, hs4, hb4⟩
      go_wp2
      go_ret
      refine ⟨_, us, rfl, ?_, below_then hbr hbr.size hb4⟩
      have hs5 := hs4.mono hbr.size
      unfold ovP
      rw [HL.out, HKN.out] at hs5
      exact hs5

end Go.Proofs.Ytbgbcmfgncneiaa
