/- Two lists of lists, two histories that read alike are the same: contracts of fairref.SameLists, SameHist. -/
import Derived.Test.YtmipnikhgihcpaaHist3
import Derived.Test.YtmipnikhgihcpaaPlaces
namespace Go.Proofs.Ytmipnikhgihcpaa
open Go.RowKit
set_option linter.unusedVariables false
set_option linter.unusedSimpArgs false

set_option maxRecDepth 100000 in
set_option maxHeartbeats 1000000 in
theorem equalFunc_same (a b : Option Addr) (na nb ca cb : Nat) (us vs : List Value) (X : List (List Int)) (w : World) (ha : Vals w a us) (hb : Vals w b vs) (hna : us.length = na) (hnb : vs.length = nb) (hX : Lists w us X) (hY : Lists w vs X) (hx : na ≤ 9223372036854775807) :
    Calls Try.prog 138 #[.slice a na ca, .slice b nb cb, .func (.func 22) #[] #[]] w fun e w' => e = .returned (.bool true) ∧ ∃ n, w' = w.drewN n := by
  obtain rfl : na = nb := by rw [← hna, ← hnb, hX.len, hY.len]
  have hXL : X.length = na := by rw [← hX.len]; exact hna
  have HX := Lib.hid hX; have HY := Lib.hid hY; have HA := Lib.hid hna; have HB := Lib.hid hnb; have HXL := Lib.hid hXL
  clear hX hY hna hnb hXL
  go_enter Try.func138, Try.ntmps138
  go_wp2
  go_loopw [17] (fun i wr => ∃ k : Nat, i = .int .i64 (k : Int) ∧ k ≤ na ∧ ∃ n, wr = w.drewN n) (fun i _ => na - (intOf i).toNat)
  case atStart => exact ⟨0, rfl, Nat.zero_le _, 0, rfl⟩
  case round =>
    obtain ⟨k, rfl, hk, n, rfl⟩ := hrel
    by_cases hlt : k < na
    · obtain ⟨b1, o1, rfl, hc1⟩ := ha.at (k := k) (by rw [HA.out]; exact hlt)
      obtain ⟨b2, o2, rfl, hc2⟩ := hb.at (k := k) (by rw [HB.out]; exact hlt)
      have e1 := hc1 k (by rw [HA.out]; exact hlt)
      have e2 := hc2 k (by rw [HB.out]; exact hlt)
      obtain ⟨xa, xn, xc, x1, x2, x3, x4, x5, x6⟩ := HX.out.sl k (by rw [HXL.out]; exact hlt)
      obtain ⟨ya, yn, yc, y1, y2, y3, y4, y5, y6⟩ := HY.out.sl k (by rw [HXL.out]; exact hlt)
      rw [x1] at e1; rw [y1] at e2
      have X2 := Lib.hid x2; have Y2 := Lib.hid y2
      have hxx : xn ≤ 9223372036854775807 := by omega
      clear hc1 hc2 x1 x2 x6 y1 y2 y6 ha hb
      go_wp2_with ((go_at_call 22); refine (slices_same xa ya xn yn xc yc (rx X k) _ (x5.drewN n) (y5.drewN n) X2.out Y2.out hxx).mono ?_; rintro e w2 ⟨rfl, nq, rfl⟩)
      go_roundw
      case rel => exact ⟨k + 1, by go_num, by omega, _, rfl⟩
      case measure => simp [intOf]; omega
    · go_wp2
      go_ret
      exact ⟨rfl, n, rfl⟩

theorem same_lists (a b : Option Addr) (na nb ca cb : Nat) (us vs : List Value) (X : List (List Int)) (w : World) (ha : Vals w a us) (hb : Vals w b vs) (hna : us.length = na) (hnb : vs.length = nb) (hX : Lists w us X) (hY : Lists w vs X) (hx : na ≤ 9223372036854775807) :
    Calls Try.prog 81 #[.slice a na ca, .slice b nb cb] w fun e w' => e = .returned (.bool true) ∧ ∃ n, w' = w.drewN n := by
  have H := Lib.hid (equalFunc_same a b na nb ca cb us vs X w ha hb hna hnb hX hY hx)
  clear hX hY ha hb hna hnb
  go_enter Try.func81, Try.ntmps81
  go_wp2_with ((go_at_call 138); refine H.out.mono ?_; rintro e w2 ⟨rfl, nq, rfl⟩)
  go_ret
  exact ⟨rfl, nq, rfl⟩

set_option maxRecDepth 100000 in
set_option maxHeartbeats 2000000 in
theorem same_hist (lv1 : Value) (m1 wh1 : Int) (sv1 pv1 : Value) (o1 : Bool) (lv2 : Value) (m2 wh2 : Int) (sv2 pv2 : Value) (o2 : Bool) (h : Hi) (w : World) (r1 : HiR w lv1 m1 wh1 sv1 pv1 o1 h) (r2 : HiR w lv2 m2 wh2 sv2 pv2 o2 h) :
    Calls Try.prog 32 #[.agg (hiC lv1 m1 wh1 sv1 pv1 o1), .agg (hiC lv2 m2 wh2 sv2 pv2 o2)] w fun e w' => e = .returned (.bool true) ∧ Below w.heap.size w w' := by
  obtain ⟨⟨us, hus, hls1⟩, rfl, rfl, hscr1, hpat1, rfl⟩ := r1
  obtain ⟨⟨vs, hvs, hls2⟩, e1, e2, hscr2, hpat2, e3⟩ := r2
  subst e1 e2 e3
  have hacc := below2 w (.cells (hiC lv1 h.most h.wher sv1 pv1 h.older) 48) (.cells (hiC lv2 h.most h.wher sv2 pv2 h.older) 48)
  have HS1 := hscr1.below hacc; have HS2 := hscr2.below hacc; have HP1 := hpat1.below hacc; have HP2 := hpat2.below hacc
  have HU := hus.below hacc; have HV := hvs.below hacc
  have HL1 := Lib.hid (hls1.below hacc); have HL2 := Lib.hid (hls2.below hacc)
  obtain ⟨la, ln, lc, rfl, l1, l2, l3, l4, -⟩ := HU
  obtain ⟨ma, mn, mc, rfl, k1, k2, k3, k4, -⟩ := HV
  obtain ⟨sa, sn, sc, rfl, s1, s2, s3, s4, -⟩ := HS1
  obtain ⟨ta, tn, tc, rfl, t1, t2, t3, t4, -⟩ := HS2
  obtain ⟨pa, pn, pc, rfl, p1, p2, p3, p4, -⟩ := HP1
  obtain ⟨qa, qn, qc, rfl, q1, q2, q3, q4, -⟩ := HP2
  have L1 := Lib.hid l1; have K1 := Lib.hid k1; have S1 := Lib.hid s1; have T1 := Lib.hid t1; have P1 := Lib.hid p1; have Q1 := Lib.hid q1
  clear l1 k1 s1 t1 p1 q1 hls1 hls2 hscr1 hscr2 hpat1 hpat2 hus hvs
  unfold hiC at *
  generalize h.most = M at *
  generalize h.wher = W at *
  generalize h.older = O at *
  have hB := (Blk.new w #[.slice la ln lc, .int .i64 M, .int .i64 W, .slice sa sn sc, .slice pa pn pc, .bool O] 48).alloc (.cells #[.slice ma mn mc, .int .i64 M, .int .i64 W, .slice ta tn tc, .slice qa qn qc, .bool O] 48)
  have hC := Blk.new (w.alloc (.cells #[.slice la ln lc, .int .i64 M, .int .i64 W, .slice sa sn sc, .slice pa pn pc, .bool O] 48)) #[.slice ma mn mc, .int .i64 M, .int .i64 W, .slice ta tn tc, .slice qa qn qc, .bool O] 48
  rw [World.size_alloc] at hC
  obtain ⟨c0, c1, c2, c3, c4, c5⟩ := hB.six
  obtain ⟨d0, d1, d2, d3, d4, d5⟩ := hC.six
  go_enter Try.func32, Try.ntmps32
  go_upto_region 1 with fail
  change Code.wp _ _ _ _ ((w.alloc (.cells #[.slice la ln lc, .int .i64 M, .int .i64 W, .slice sa sn sc, .slice pa pn pc, .bool O] 48)).alloc (.cells #[.slice ma mn mc, .int .i64 M, .int .i64 W, .slice ta tn tc, .slice qa qn qc, .bool O] 48))
  generalize ((w.alloc (.cells #[.slice la ln lc, .int .i64 M, .int .i64 W, .slice sa sn sc, .slice pa pn pc, .bool O] 48)).alloc (.cells #[.slice ma mn mc, .int .i64 M, .int .i64 W, .slice ta tn tc, .slice qa qn qc, .bool O] 48)) = w1 at *
  go_wp2_with fail
  refine (slices_same sa ta sn tn sc tc h.scr _ s4 t4 S1.out T1.out (by omega)).mono ?_
  rintro e w2 ⟨rfl, n2, rfl⟩
  go_wp2_with fail
  refine (slices_same pa qa pn qn pc qc h.pat _ (p4.drewN _) (q4.drewN _) P1.out Q1.out (by omega)).mono ?_
  rintro e w2 ⟨rfl, n3, rfl⟩
  go_wp2_with fail
  refine (same_lists la ma ln mn lc mc us vs h.ls _ (l4.drewN _) (k4.drewN _) L1.out K1.out (HL1.out.drewN _) (HL2.out.drewN _) (by omega)).mono ?_
  rintro e w2 ⟨rfl, n4, rfl⟩
  go_wp2
  go_ret
  exact ⟨rfl, below_drewN hacc _⟩

end Go.Proofs.Ytmipnikhgihcpaa
