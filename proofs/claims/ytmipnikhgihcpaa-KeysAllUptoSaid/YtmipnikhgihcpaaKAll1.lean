/- Contracts of keys.All and fairref.TakeAll. -/
import Derived.Test.YtmipnikhgihcpaaKAll
import Derived.Test.YtmipnikhgihcpaaKeyT
namespace Go.Proofs.Ytmipnikhgihcpaa
open Go.RowKit
set_option linter.unusedVariables false
set_option linter.unusedSimpArgs false

def AllPost (s : KSt) (w : World) (e : Ending) (w' : World) : Prop :=
  ∃ v, e = .returned (.tuple #[v, .agg #[.int .i64 s.p.a, .int .i64 s.p.b, .int .i64 s.p.c, .int .i64 s.p.d, .int .i64 s.p.e], .int .i64 s.n]) ∧ COwn w.heap.size w' v s.out ∧ Below w.heap.size w w'

theorem two_parts (w : World) (u v : Array Value) (e f : TypeId) : Blk ((w.alloc (.cells u e)).alloc (.cells v f)) w.heap.size u e ∧ Blk ((w.alloc (.cells u e)).alloc (.cells v f)) (w.heap.size + 1) v f ∧ Below w.heap.size w ((w.alloc (.cells u e)).alloc (.cells v f)) := by
  have h := Blk.new (w.alloc (.cells u e)) v f
  rw [World.size_alloc] at h
  exact ⟨(Blk.new _ _ _).alloc _, h, below2 _ _ _⟩


theorem Blk.other5 {w : World} {B C : Nat} {cs : Array Value} {e : TypeId} (h : Blk w C cs e) (hne : C ≠ B) (u0 u1 u2 u3 u4 : Value) :
    Blk (((((w.setCell ⟨B, 0, none⟩ u0).setCell ⟨B, 1, none⟩ u1).setCell ⟨B, 2, none⟩ u2).setCell ⟨B, 3, none⟩ u3).setCell ⟨B, 4, none⟩ u4) C cs e :=
  ((((h.other (a := ⟨B, 0, none⟩) hne u0).other (a := ⟨B, 1, none⟩) hne u1).other (a := ⟨B, 2, none⟩) hne u2).other (a := ⟨B, 3, none⟩) hne u3).other (a := ⟨B, 4, none⟩) hne u4
theorem COwn.setCell {base : Nat} {w : World} {v : Value} {es : List C5} (h : COwn base w v es) {a : Addr} (ha : a.block < base) (u : Value) : COwn base (w.setCell a u) v es := ownsRow_setCell_below h ha u
theorem COwn.set5 {base B : Nat} {w : World} {v : Value} {es : List C5} (h : COwn base w v es) (ha : B < base) (u0 u1 u2 u3 u4 : Value) :
    COwn base (((((w.setCell ⟨B, 0, none⟩ u0).setCell ⟨B, 1, none⟩ u1).setCell ⟨B, 2, none⟩ u2).setCell ⟨B, 3, none⟩ u3).setCell ⟨B, 4, none⟩ u4) v es :=
  ((((h.setCell (a := ⟨B, 0, none⟩) ha u0).setCell (a := ⟨B, 1, none⟩) ha u1).setCell (a := ⟨B, 2, none⟩) ha u2).setCell (a := ⟨B, 3, none⟩) ha u3).setCell (a := ⟨B, 4, none⟩) ha u4

set_option maxRecDepth 100000 in
set_option maxHeartbeats 8000000 in
theorem keys_all (a : Option Addr) (n c : Nat) (xs : List Int) (w : World) (hx : Ints w a xs) (hn : xs.length = n) (hl : n ≤ 1048576) :
    Calls Try.prog 49 #[.slice a n c] w (AllPost (stV xs) w) := by
  have HN := Lib.hid hn; clear hn
  obtain ⟨hR, hP, hb0⟩ := two_parts w #[.int .i64 0, .int .i64 0, .int .i64 0, .int .i64 0, .int .i64 0] #[.int .i64 0, .int .i64 0, .int .i64 0, .int .i64 0, .int .i64 0] 83 83
  go_enter Try.func49, Try.ntmps49
  go_upto_region 5 with fail
  generalize ((w.alloc (.cells #[.int .i64 0, .int .i64 0, .int .i64 0, .int .i64 0, .int .i64 0] 83)).alloc (.cells #[.int .i64 0, .int .i64 0, .int .i64 0, .int .i64 0, .int .i64 0] 83)) = w1 at *
  go_loopw [16, 5, 7] (fun i v nn wr => ∃ k : Nat, i = .int .i64 (k : Int) ∧ k ≤ n ∧ nn = .int .i64 (stV (xs.take k)).n ∧ COwn (w.heap.size + 2) wr v (stV (xs.take k)).out ∧ Blk wr (w.heap.size + 1) #[.int .i64 (stV (xs.take k)).p.a, .int .i64 (stV (xs.take k)).p.b, .int .i64 (stV (xs.take k)).p.c, .int .i64 (stV (xs.take k)).p.d, .int .i64 (stV (xs.take k)).p.e] 83 ∧ Blk wr w.heap.size #[.int .i64 0, .int .i64 0, .int .i64 0, .int .i64 0, .int .i64 0] 83 ∧ Below w.heap.size w wr) (fun i _ _ _ => n - (intOf i).toNat)
  case atStart => exact ⟨0, rfl, by omega, rfl, COwn.nil _ _, hP, hR, hb0⟩
  case round =>
    obtain ⟨k, rfl, hk, rfl, hown, hP, hR, hb⟩ := hrel
    have hgood := stV_takeGood (l := xs) (k := k) (by rw [HN.out]; exact hk)
    by_cases hlt : k < n
    · have HS := Lib.hid (stV_take (l := xs) (k := k) (by rw [HN.out]; exact hlt))
      obtain ⟨bb, oo, rfl, hc1⟩ := (hx.below hb).at (k := k) (by rw [HN.out]; exact hlt)
      have e1 := hc1 k (by rw [HN.out]; exact hlt)
      have HX := Lib.hid hx
      clear hc1 hx
      generalize stV (xs.take k) = s at *
      generalize hkey : ix xs k = key at *
      obtain ⟨out, ⟨f, r, o, sc, wt⟩, nn⟩ := s
      simp only at hown hP hgood
      obtain ⟨g1, g2, g3, g4⟩ := hgood
      simp only at g2 g3 g4
      have G1 := Lib.hid (show partE f r o sc wt = 0 from g1)
      have HS2 := Lib.hid (show stV (xs.take (k + 1)) = ⟨if (takV f r o sc wt key).how = 2 then out ++ [(takV f r o sc wt key).cc] else out, (takV f r o sc wt key).qc, if (takV f r o sc wt key).how = 3 then nn + 1 else nn⟩ from HS.out)
      have HH := Lib.hid (tak_how f r o sc wt key)
      obtain ⟨c0, c1, c2, c3, c4⟩ := hP.five
      have i1 : (k : Int) < (n : Int) := by omega
      clear g1 HS
      go_wp2_with fail
      refine (keys_take f r o sc wt key _ G1.out).mono ?_
      rintro e w3 ⟨rfl, hb3⟩
      have hP := hP.below hb3 hP.lt
      have hR := hR.below hb3 hR.lt
      have hown := hown.kept hb3
      have hacc := below_then hb hb.size hb3
      have hzP := hP.lt
      clear c0 c1 c2 c3 c4 hb3
      generalize takV f r o sc wt key = t at *
      obtain ⟨q0, q1, q2, q3, q4, d0, d1, d2, d3, d4, how⟩ := t
      simp only at HS2 HH
      obtain ⟨hQ, hC, hbn⟩ := two_parts w3 #[.int .i64 q0, .int .i64 q1, .int .i64 q2, .int .i64 q3, .int .i64 q4] #[.int .i64 d0, .int .i64 d1, .int .i64 d2, .int .i64 d3, .int .i64 d4] 83 80
      have hP := hP.below hbn hP.lt
      have hR := hR.below hbn hR.lt
      have hown := hown.kept hbn
      have hacc := below_then hacc hacc.size hbn
      clear hbn hb
      simp only [TK.q, TK.c]
      go_upto_region 8 with fail
      generalize (w3.alloc (.cells #[.int .i64 q0, .int .i64 q1, .int .i64 q2, .int .i64 q3, .int .i64 q4] 83)).alloc (.cells #[.int .i64 d0, .int .i64 d1, .int .i64 d2, .int .i64 d3, .int .i64 d4] 80) = w4 at *
      generalize w3.heap.size = N3 at *
      obtain ⟨k0, k1, k2, k3, k4⟩ := hQ.five
      obtain ⟨l0, l1, l2, l3, l4⟩ := hC.five
      obtain ⟨m0, m1, m2, m3, m4⟩ := hP.five
      obtain ⟨f0, f1, f2, f3, f4⟩ := hP.fiveF
      have hP := hP.set5 (.int .i64 q0) (.int .i64 q1) (.int .i64 q2) (.int .i64 q3) (.int .i64 q4)
      have hR := hR.other5 (B := w.heap.size + 1) (by omega) (.int .i64 q0) (.int .i64 q1) (.int .i64 q2) (.int .i64 q3) (.int .i64 q4)
      have hC := hC.other5 (B := w.heap.size + 1) (by omega) (.int .i64 q0) (.int .i64 q1) (.int .i64 q2) (.int .i64 q3) (.int .i64 q4)
      have hown := hown.set5 (B := w.heap.size + 1) (by omega) (.int .i64 q0) (.int .i64 q1) (.int .i64 q2) (.int .i64 q3) (.int .i64 q4)
      have hacc := below_set5 (B := w.heap.size + 1) hacc (by omega) (x0 := .int .i64 q0) (x1 := .int .i64 q1) (x2 := .int .i64 q2) (x3 := .int .i64 q3) (x4 := .int .i64 q4)
      clear l0 l1 l2 l3 l4
      go_upto_region 9 with fail
      generalize (((((w4.setCell ⟨w.heap.size + 1, 0, none⟩ (.int .i64 q0)).setCell ⟨w.heap.size + 1, 1, none⟩ (.int .i64 q1)).setCell ⟨w.heap.size + 1, 2, none⟩ (.int .i64 q2)).setCell ⟨w.heap.size + 1, 3, none⟩ (.int .i64 q3)).setCell ⟨w.heap.size + 1, 4, none⟩ (.int .i64 q4)) = w5 at *
      obtain ⟨l0, l1, l2, l3, l4⟩ := hC.five
      rcases HH.out with rfl | rfl | rfl
      · have E : stV (xs.take (k + 1)) = ⟨out, ⟨q0, q1, q2, q3, q4⟩, nn⟩ := HS2.out
        go_wp2
        go_roundw
        case rel => exact ⟨k + 1, by go_num, by omega, by rw [E], by rw [E]; exact hown, by rw [E]; exact hP, hR, hacc⟩
        case measure => simp [intOf]; omega
      · have E : stV (xs.take (k + 1)) = ⟨out ++ [⟨d0, d1, d2, d3, d4⟩], ⟨q0, q1, q2, q3, q4⟩, nn⟩ := HS2.out
        have hb2 : w.heap.size + 2 ≤ w5.heap.size := hP.lt
        have nP := hown.neBlk hP (by decide); have nR := hown.neBlk hR (by decide)
        have hPA := hP.alloc (.cells #[.int .i64 d0, .int .i64 d1, .int .i64 d2, .int .i64 d3, .int .i64 d4] 80); have hRA := hR.alloc (.cells #[.int .i64 d0, .int .i64 d1, .int .i64 d2, .int .i64 d3, .int .i64 d4] 80); have haccA := hacc.alloc hacc.size (.cells #[.int .i64 d0, .int .i64 d1, .int .i64 d2, .int .i64 d3, .int .i64 d4] 80)
        have rowA := (hown.mono (base' := w.heap.size) (by omega)).row
        go_wp2_with (at_builtin; refine capp1 rfl _ _ rfl (w.heap.size + 2) _ out ⟨d0, d1, d2, d3, d4⟩ _ rfl rfl (hown.alloc _) (Blk.new _ _ _) (by omega) (size_alloc_le hb2 _) ?_; intro v6 w6 hown6 hgrow6)
        go_roundw
        case rel => exact ⟨k + 1, by go_num, by omega, by rw [E], by rw [E]; exact hown6, by rw [E]; exact hPA.grown hgrow6 nP, hRA.grown hgrow6 nR, haccA.grown hgrow6 (by rw [World.size_alloc]; omega) rowA⟩
        case measure => simp [intOf]; omega
      · have E : stV (xs.take (k + 1)) = ⟨out, ⟨q0, q1, q2, q3, q4⟩, nn + 1⟩ := HS2.out
        go_wp2
        go_roundw
        case rel => exact ⟨k + 1, by go_num, by omega, by rw [E], by rw [E]; exact hown, by rw [E]; exact hP, hR, hacc⟩
        case measure => simp [intOf]; omega
    · obtain rfl : k = n := by omega
      obtain ⟨c0, c1, c2, c3, c4⟩ := hP.five
      obtain ⟨r0, r1, r2, r3, r4⟩ := hR.five
      obtain ⟨f0, f1, f2, f3, f4⟩ := hR.fiveF
      have HT := Lib.hid (show xs.take k = xs by rw [← HN.out]; exact List.take_length)
      rw [HT.out] at hown c0 c1 c2 c3 c4
      have hG := hR.set5 (.int .i64 (stV xs).p.a) (.int .i64 (stV xs).p.b) (.int .i64 (stV xs).p.c) (.int .i64 (stV xs).p.d) (.int .i64 (stV xs).p.e)
      have hownF := (hown.mono (base' := w.heap.size + 1) (by omega)).set5 (B := w.heap.size) (by omega) (.int .i64 (stV xs).p.a) (.int .i64 (stV xs).p.b) (.int .i64 (stV xs).p.c) (.int .i64 (stV xs).p.d) (.int .i64 (stV xs).p.e)
      have hbF := below_set5 (B := w.heap.size) hb (by omega) (x0 := .int .i64 (stV xs).p.a) (x1 := .int .i64 (stV xs).p.b) (x2 := .int .i64 (stV xs).p.c) (x3 := .int .i64 (stV xs).p.d) (x4 := .int .i64 (stV xs).p.e)
      have HF := Lib.hid (show _ ∧ _ from ⟨hownF.mono (base' := w.heap.size) (by omega), hbF⟩)
      obtain ⟨y0, y1, y2, y3, y4⟩ := hG.five
      clear hownF hbF hown hb hG hP hR
      go_upto_region 15 with fail
      go_region
      all_goals
        go_wp2
        refine bodyPost_ret (v := .tuple #[u5, .agg #[.int .i64 (stV xs).p.a, .int .i64 (stV xs).p.b, .int .i64 (stV xs).p.c, .int .i64 (stV xs).p.d, .int .i64 (stV xs).p.e], .int .i64 (stV (xs.take k)).n]) (by simp [results, Try.results49, go_sem, y0, y1, y2, y3, y4]) rfl ?_
        exact ⟨_, by rw [HT.out], HF.out.1.drew, HF.out.2.drew⟩


set_option maxRecDepth 100000 in
set_option maxHeartbeats 8000000 in
theorem ref_takeAll (a : Option Addr) (n c : Nat) (xs : List Int) (w : World) (hx : Ints w a xs) (hn : xs.length = n) (hl : n ≤ 1048576) :
    Calls Try.prog 50 #[.slice a n c] w (AllPost (stV xs) w) := by
  have HN := Lib.hid hn; clear hn
  obtain ⟨hR, hP, hb0⟩ := two_parts w #[.int .i64 0, .int .i64 0, .int .i64 0, .int .i64 0, .int .i64 0] #[.int .i64 0, .int .i64 0, .int .i64 0, .int .i64 0, .int .i64 0] 83 83
  go_enter Try.func50, Try.ntmps50
  go_upto_region 5 with fail
  generalize ((w.alloc (.cells #[.int .i64 0, .int .i64 0, .int .i64 0, .int .i64 0, .int .i64 0] 83)).alloc (.cells #[.int .i64 0, .int .i64 0, .int .i64 0, .int .i64 0, .int .i64 0] 83)) = w1 at *
  go_loopw [15, 5, 7] (fun i v nn wr => ∃ k : Nat, i = .int .i64 (k : Int) ∧ k ≤ n ∧ nn = .int .i64 (stV (xs.take k)).n ∧ COwn (w.heap.size + 2) wr v (stV (xs.take k)).out ∧ Blk wr (w.heap.size + 1) #[.int .i64 (stV (xs.take k)).p.a, .int .i64 (stV (xs.take k)).p.b, .int .i64 (stV (xs.take k)).p.c, .int .i64 (stV (xs.take k)).p.d, .int .i64 (stV (xs.take k)).p.e] 83 ∧ Blk wr w.heap.size #[.int .i64 0, .int .i64 0, .int .i64 0, .int .i64 0, .int .i64 0] 83 ∧ Below w.heap.size w wr) (fun i _ _ _ => n - (intOf i).toNat)
  case atStart => exact ⟨0, rfl, by omega, rfl, COwn.nil _ _, hP, hR, hb0⟩
  case round =>
    obtain ⟨k, rfl, hk, rfl, hown, hP, hR, hb⟩ := hrel
    have hgood := stV_takeGood (l := xs) (k := k) (by rw [HN.out]; exact hk)
    by_cases hlt : k < n
    · have HS := Lib.hid (stV_take (l := xs) (k := k) (by rw [HN.out]; exact hlt))
      obtain ⟨bb, oo, rfl, hc1⟩ := (hx.below hb).at (k := k) (by rw [HN.out]; exact hlt)
      have e1 := hc1 k (by rw [HN.out]; exact hlt)
      have HX := Lib.hid hx
      clear hc1 hx
      generalize stV (xs.take k) = s at *
      generalize hkey : ix xs k = key at *
      obtain ⟨out, ⟨f, r, o, sc, wt⟩, nn⟩ := s
      simp only at hown hP hgood
      obtain ⟨g1, g2, g3, g4⟩ := hgood
      simp only at g2 g3 g4
      have G1 := Lib.hid (show partE f r o sc wt = 0 from g1)
      have HS2 := Lib.hid (show stV (xs.take (k + 1)) = ⟨if (takV f r o sc wt key).how = 2 then out ++ [(takV f r o sc wt key).cc] else out, (takV f r o sc wt key).qc, if (takV f r o sc wt key).how = 3 then nn + 1 else nn⟩ from HS.out)
      have HH := Lib.hid (tak_how f r o sc wt key)
      obtain ⟨c0, c1, c2, c3, c4⟩ := hP.five
      have i1 : (k : Int) < (n : Int) := by omega
      clear g1 HS
      go_wp2_with fail
      refine (ref_take f r o sc wt key _ G1.out).mono ?_
      rintro e w3 ⟨rfl, hb3⟩
      have hP := hP.below hb3 hP.lt
      have hR := hR.below hb3 hR.lt
      have hown := hown.kept hb3
      have hacc := below_then hb hb.size hb3
      have hzP := hP.lt
      clear c0 c1 c2 c3 c4 hb3
      generalize takV f r o sc wt key = t at *
      obtain ⟨q0, q1, q2, q3, q4, d0, d1, d2, d3, d4, how⟩ := t
      simp only at HS2 HH
      obtain ⟨hQ, hC, hbn⟩ := two_parts w3 #[.int .i64 q0, .int .i64 q1, .int .i64 q2, .int .i64 q3, .int .i64 q4] #[.int .i64 d0, .int .i64 d1, .int .i64 d2, .int .i64 d3, .int .i64 d4] 83 80
      have hP := hP.below hbn hP.lt
      have hR := hR.below hbn hR.lt
      have hown := hown.kept hbn
      have hacc := below_then hacc hacc.size hbn
      clear hbn hb
      simp only [TK.q, TK.c]
      go_upto_region 8 with fail
      generalize (w3.alloc (.cells #[.int .i64 q0, .int .i64 q1, .int .i64 q2, .int .i64 q3, .int .i64 q4] 83)).alloc (.cells #[.int .i64 d0, .int .i64 d1, .int .i64 d2, .int .i64 d3, .int .i64 d4] 80) = w4 at *
      generalize w3.heap.size = N3 at *
      obtain ⟨k0, k1, k2, k3, k4⟩ := hQ.five
      obtain ⟨l0, l1, l2, l3, l4⟩ := hC.five
      obtain ⟨m0, m1, m2, m3, m4⟩ := hP.five
      obtain ⟨f0, f1, f2, f3, f4⟩ := hP.fiveF
      rcases HH.out with rfl | rfl | rfl
      · have E : stV (xs.take (k + 1)) = ⟨out, ⟨q0, q1, q2, q3, q4⟩, nn⟩ := HS2.out
        have hP := hP.set5 (.int .i64 q0) (.int .i64 q1) (.int .i64 q2) (.int .i64 q3) (.int .i64 q4)
        have hR := hR.other5 (B := w.heap.size + 1) (by omega) (.int .i64 q0) (.int .i64 q1) (.int .i64 q2) (.int .i64 q3) (.int .i64 q4)
        have hown := hown.set5 (B := w.heap.size + 1) (by omega) (.int .i64 q0) (.int .i64 q1) (.int .i64 q2) (.int .i64 q3) (.int .i64 q4)
        have hacc := below_set5 (B := w.heap.size + 1) hacc (by omega) (x0 := .int .i64 q0) (x1 := .int .i64 q1) (x2 := .int .i64 q2) (x3 := .int .i64 q3) (x4 := .int .i64 q4)
        have HF := Lib.hid (show _ ∧ _ ∧ _ ∧ _ from ⟨hown, hP, hR, hacc⟩)
        clear hown hP hR hacc
        go_wp2
        go_roundw
        case rel => exact ⟨k + 1, by go_num, by omega, by rw [E], by rw [E]; exact HF.out.1, by rw [E]; exact HF.out.2.1, HF.out.2.2.1, HF.out.2.2.2⟩
        case measure => simp [intOf]; omega
      · have E : stV (xs.take (k + 1)) = ⟨out ++ [⟨d0, d1, d2, d3, d4⟩], ⟨q0, q1, q2, q3, q4⟩, nn⟩ := HS2.out
        have hb2 : w.heap.size + 2 ≤ w4.heap.size := hP.lt
        have nP := hown.neBlk hP (by decide); have nR := hown.neBlk hR (by decide); have nQ := hown.neBlk hQ (by decide)
        have hQA := hQ.alloc (.cells #[.int .i64 d0, .int .i64 d1, .int .i64 d2, .int .i64 d3, .int .i64 d4] 80)
        have hPA := hP.alloc (.cells #[.int .i64 d0, .int .i64 d1, .int .i64 d2, .int .i64 d3, .int .i64 d4] 80); have hRA := hR.alloc (.cells #[.int .i64 d0, .int .i64 d1, .int .i64 d2, .int .i64 d3, .int .i64 d4] 80); have haccA := hacc.alloc hacc.size (.cells #[.int .i64 d0, .int .i64 d1, .int .i64 d2, .int .i64 d3, .int .i64 d4] 80)
        have rowA := (hown.mono (base' := w.heap.size) (by omega)).row
        go_wp2_with (at_builtin; refine capp1 rfl _ _ rfl (w.heap.size + 2) _ out ⟨d0, d1, d2, d3, d4⟩ _ rfl rfl (hown.alloc _) (Blk.new _ _ _) (by omega) (size_alloc_le hb2 _) ?_; intro v6 w6 hown6 hgrow6; have hP6 := hPA.grown hgrow6 nP; have hQ6 := hQA.grown hgrow6 nQ; obtain ⟨k0, k1, k2, k3, k4⟩ := hQ6.five; obtain ⟨m0, m1, m2, m3, m4⟩ := hP6.five; obtain ⟨f0, f1, f2, f3, f4⟩ := hP6.fiveF)
        go_roundw
        case rel => exact ⟨k + 1, by go_num, by omega, by rw [E], by rw [E]; exact hown6.set5 (B := w.heap.size + 1) (by omega) (.int .i64 q0) (.int .i64 q1) (.int .i64 q2) (.int .i64 q3) (.int .i64 q4), by rw [E]; exact (hPA.grown hgrow6 nP).set5 (.int .i64 q0) (.int .i64 q1) (.int .i64 q2) (.int .i64 q3) (.int .i64 q4), (hRA.grown hgrow6 nR).other5 (B := w.heap.size + 1) (by omega) (.int .i64 q0) (.int .i64 q1) (.int .i64 q2) (.int .i64 q3) (.int .i64 q4), below_set5 (B := w.heap.size + 1) (haccA.grown hgrow6 (by rw [World.size_alloc]; omega) rowA) (by omega) (x0 := .int .i64 q0) (x1 := .int .i64 q1) (x2 := .int .i64 q2) (x3 := .int .i64 q3) (x4 := .int .i64 q4)⟩
        case measure => simp [intOf]; omega
      · have E : stV (xs.take (k + 1)) = ⟨out, ⟨q0, q1, q2, q3, q4⟩, nn + 1⟩ := HS2.out
        have hP := hP.set5 (.int .i64 q0) (.int .i64 q1) (.int .i64 q2) (.int .i64 q3) (.int .i64 q4)
        have hR := hR.other5 (B := w.heap.size + 1) (by omega) (.int .i64 q0) (.int .i64 q1) (.int .i64 q2) (.int .i64 q3) (.int .i64 q4)
        have hown := hown.set5 (B := w.heap.size + 1) (by omega) (.int .i64 q0) (.int .i64 q1) (.int .i64 q2) (.int .i64 q3) (.int .i64 q4)
        have hacc := below_set5 (B := w.heap.size + 1) hacc (by omega) (x0 := .int .i64 q0) (x1 := .int .i64 q1) (x2 := .int .i64 q2) (x3 := .int .i64 q3) (x4 := .int .i64 q4)
        have HF := Lib.hid (show _ ∧ _ ∧ _ ∧ _ from ⟨hown, hP, hR, hacc⟩)
        clear hown hP hR hacc
        go_wp2
        go_roundw
        case rel => exact ⟨k + 1, by go_num, by omega, by rw [E], by rw [E]; exact HF.out.1, by rw [E]; exact HF.out.2.1, HF.out.2.2.1, HF.out.2.2.2⟩
        case measure => simp [intOf]; omega
    · obtain rfl : k = n := by omega
      obtain ⟨c0, c1, c2, c3, c4⟩ := hP.five
      obtain ⟨r0, r1, r2, r3, r4⟩ := hR.five
      obtain ⟨f0, f1, f2, f3, f4⟩ := hR.fiveF
      have HT := Lib.hid (show xs.take k = xs by rw [← HN.out]; exact List.take_length)
      rw [HT.out] at hown c0 c1 c2 c3 c4
      have hG := hR.set5 (.int .i64 (stV xs).p.a) (.int .i64 (stV xs).p.b) (.int .i64 (stV xs).p.c) (.int .i64 (stV xs).p.d) (.int .i64 (stV xs).p.e)
      have hownF := (hown.mono (base' := w.heap.size + 1) (by omega)).set5 (B := w.heap.size) (by omega) (.int .i64 (stV xs).p.a) (.int .i64 (stV xs).p.b) (.int .i64 (stV xs).p.c) (.int .i64 (stV xs).p.d) (.int .i64 (stV xs).p.e)
      have hbF := below_set5 (B := w.heap.size) hb (by omega) (x0 := .int .i64 (stV xs).p.a) (x1 := .int .i64 (stV xs).p.b) (x2 := .int .i64 (stV xs).p.c) (x3 := .int .i64 (stV xs).p.d) (x4 := .int .i64 (stV xs).p.e)
      have HF := Lib.hid (show _ ∧ _ from ⟨hownF.mono (base' := w.heap.size) (by omega), hbF⟩)
      obtain ⟨y0, y1, y2, y3, y4⟩ := hG.five
      clear hownF hbF hown hb hG hP hR
      go_upto_region 14 with fail
      go_region
      all_goals
        go_wp2
        refine bodyPost_ret (v := .tuple #[u5, .agg #[.int .i64 (stV xs).p.a, .int .i64 (stV xs).p.b, .int .i64 (stV xs).p.c, .int .i64 (stV xs).p.d, .int .i64 (stV xs).p.e], .int .i64 (stV (xs.take k)).n]) (by simp [results, Try.results50, go_sem, y0, y1, y2, y3, y4]) rfl ?_
        exact ⟨_, by rw [HT.out], HF.out.1.drew, HF.out.2.drew⟩

end Go.Proofs.Ytmipnikhgihcpaa
