/- Edits in memory: slices of splices; contracts of their two checks. -/
import Derived.Test.YtbgbcmfgncneiaaSplP
import Derived.Test.YtbgbcmfgncneiaaSlib
import Derived.Deep.DeepCutAuto
import Derived.Deep.CutBlock
namespace Go.Proofs.Ytbgbcmfgncneiaa
open Go.RowKit
set_option linter.unusedVariables false
set_option linter.unusedSimpArgs false

/-- the three cells of a splice -/
def SplAt (w : World) (b o : Nat) (s : Sp) : Prop := ∃ ax cx, w.cell? ⟨b, o, none⟩ = some (.int .i64 s.f) ∧ w.cell? ⟨b, o + 1, none⟩ = some (.int .i64 s.t) ∧
  w.cell? ⟨b, o + 2, none⟩ = some (.slice ax s.x.length cx) ∧ Ints w ax s.x ∧ s.x.length ≤ cx ∧ cx ≤ 9223372036854775807 ∧ (ax = none → s.x.length = 0)
/-- the splice at a place; the walk does not look behind this name -/
def sp (es : List Sp) (i : Nat) : Sp := es.getD i ⟨0, 0, []⟩
theorem sp_eq {es : List Sp} {i : Nat} (h : i < es.length) : sp es i = es[i] := by simp [sp, h]
theorem drop_sp {es : List Sp} {i : Nat} (h : i < es.length) : es.drop i = sp es i :: es.drop (i + 1) := by rw [sp_eq h, List.drop_eq_getElem_cons h]
/-- the cells from a on read as the splices es -/
def Spls (w : World) (a : Option Addr) (es : List Sp) : Prop :=
  es = [] ∨ ∃ b o, a = some ⟨b, o, none⟩ ∧ ∀ i, i < es.length → SplAt w b (o + i * 3) (sp es i)
theorem SplAt.keep {w w' : World} {b o : Nat} {s : Sp} (h : SplAt w b o s) (hc : ∀ p v, w.cell? p = some v → w'.cell? p = some v) : SplAt w' b o s := by
  obtain ⟨ax, cx, h1, h2, h3, h4, h5, h6, h7⟩ := h
  exact ⟨ax, cx, hc _ _ h1, hc _ _ h2, hc _ _ h3, h4.keep hc, h5, h6, h7⟩
theorem Spls.keep {w w' : World} {a : Option Addr} {es : List Sp} (h : Spls w a es) (hc : ∀ p v, w.cell? p = some v → w'.cell? p = some v) : Spls w' a es := by
  rcases h with h | ⟨b, o, ha, h⟩
  · exact .inl h
  · exact .inr ⟨b, o, ha, fun i hi => (h i hi).keep hc⟩
theorem Spls.below {w w' : World} {a : Option Addr} {es : List Sp} (h : Spls w a es) (hb : Below w.heap.size w w') : Spls w' a es := h.keep (below_keeps hb)
theorem Spls.drewN {w : World} {a : Option Addr} {es : List Sp} (h : Spls w a es) (n : Nat) : Spls (w.drewN n) a es := h.keep (fun _ _ h => h)
theorem Spls.at {w : World} {a : Option Addr} {es : List Sp} (h : Spls w a es) {k : Nat} (hk : k < es.length) :
    ∃ b o, a = some ⟨b, o, none⟩ ∧ ∀ i, i < es.length → SplAt w b (o + i * 3) (sp es i) := by
  rcases h with h | h
  · subst h; simp at hk
  · exact h

def CkPost (n : Int) (es : List Sp) (w : World) (e : Ending) (w' : World) : Prop := e = .returned (.int .i64 (ckE n es)) ∧ Below w.heap.size w w'
theorem ckE_in {n : Int} {es : List Sp} (h0 : 0 ≤ n) (h1 : n ≤ 4096) : ckE n es = ckL n (-1) n es := by unfold ckE; rw [if_neg (by omega)]
theorem ckE_out {n : Int} {es : List Sp} (h : n < 0 ∨ 4096 < n) : ckE n es = 1 := by unfold ckE; rw [if_pos h]

theorem spBad_y {n last f t : Int} {x : List Int} (h : f ≤ last ∨ t < f ∨ n < t ∨ (f = t ∧ x.length = 0)) : spBad n last ⟨f, t, x⟩ = true := by
  simp only [spBad, Bool.or_eq_true, Bool.and_eq_true, decide_eq_true_eq]; omega
theorem spBad_n {n last f t : Int} {x : List Int} (h : last < f ∧ f ≤ t ∧ t ≤ n ∧ (f < t ∨ 0 < x.length)) : spBad n last ⟨f, t, x⟩ = false := by
  simp only [spBad, Bool.or_eq_false_iff, Bool.and_eq_false_iff, decide_eq_false_iff_not]; omega
theorem spBig_y {size f t : Int} {x : List Int} (h : 4096 < x.length ∨ 8192 < size - (t - f) + (x.length : Int)) : spBig size ⟨f, t, x⟩ = true := by
  simp only [spBig, Bool.or_eq_true, decide_eq_true_eq]; omega
theorem spBig_n {size f t : Int} {x : List Int} (h : x.length ≤ 4096 ∧ size - (t - f) + (x.length : Int) ≤ 8192) : spBig size ⟨f, t, x⟩ = false := by
  simp only [spBig, Bool.or_eq_false_iff, decide_eq_false_iff_not]; omega

set_option maxRecDepth 100000 in
set_option maxHeartbeats 1000000 in
theorem splice_check (a : Option Addr) (m c : Nat) (es : List Sp) (n : Int) (w : World) (he : Spls w a es) (hm : es.length = m) (hm2 : m ≤ 9223372036854775807) :
    Calls Try.prog 43 #[.int .i64 n, .slice a m c] w (CkPost n es w) := by
  by_cases hn : n < 0 ∨ 4096 < n
  · have HE := Lib.hid (ckE_out (es := es) hn)
    rcases hn with hn | hn
    all_goals
      go_enter Try.func43, Try.ntmps43
      go_wp2
      all_goals
        go_ret
        exact ⟨ret1_int HE.out.symm, Below.refl _ _⟩
  · have n0 : 0 ≤ n := by omega
    have n1 : n ≤ 4096 := by omega
    have HC := Lib.hid (ckE_in (es := es) n0 n1)
    have HM := Lib.hid hm
    clear hm hn
    go_enter Try.func43, Try.ntmps43
    go_wp2
    go_loopw [5, 6, 18] (fun v u i wr => ∃ (L S : Int) (k : Nat), v = .int .i64 L ∧ u = .int .i64 S ∧ i = .int .i64 (k : Int) ∧ k ≤ m ∧ Hid (ckE n es = ckL n L S (es.drop k)) ∧ -1 ≤ L ∧ L ≤ n ∧ S ≤ 8192 ∧ n ≤ S + max L 0 ∧ Below w.heap.size w wr) (fun _ _ i _ => m - (intOf i).toNat)
    case atStart => exact ⟨-1, n, 0, rfl, rfl, rfl, by omega, Lib.hid (by rw [HC.out]; rfl), by omega, by omega, by omega, by omega, Below.refl _ _⟩
    case round =>
      obtain ⟨L, S, k, rfl, rfl, rfl, hk, HL, l1, l2, l3, l4, hb⟩ := hrel
      by_cases hlt : k < m
      · obtain ⟨b1, o1, rfl, hc⟩ := he.at (k := k) (by rw [HM.out]; exact hlt)
        obtain ⟨ax, cx, c0, c1, c2, -, g1, g2, g3⟩ := (hc k (by rw [HM.out]; exact hlt)).keep (below_keeps hb)
        have HS := Lib.hid (drop_sp (es := es) (i := k) (by rw [HM.out]; exact hlt))
        generalize sp es k = s at *
        obtain ⟨f, t, x⟩ := s
        simp only at c0 c1 c2 g1 g2 g3
        have i1 : (k : Int) < (m : Int) := by omega
        go_wp2
        all_goals try
          (go_ret
           try simp only [beq_iff_eq, beq_eq_false_iff_ne, ne_eq] at *
           exact ⟨ret1_int (by rw [HL.out, HS.out]; first | exact (ckL_bad (spBad_y (by omega))).symm | exact (ckL_big (spBad_n (by omega)) (spBig_y (by omega))).symm), hb.alloc hb.size _⟩)
        all_goals
          go_roundw
          case rel =>
            try simp only [beq_iff_eq, beq_eq_false_iff_ne, ne_eq] at *
            exact ⟨t, _, k + 1, rfl, rfl, by go_num, by omega, Lib.hid (by rw [HL.out, HS.out]; refine (ckL_step (spBad_n (by omega)) (spBig_n (by omega))).trans ?_; first | rfl | (congr 1; show S - (t - f) + (x.length : Int) = _; omega)), by omega, by omega, by omega, by omega, hb.alloc hb.size _⟩
          case measure => simp [intOf]; omega
      · have HD := Lib.hid (show List.drop k es = [] by rw [List.drop_eq_nil_iff]; rw [HM.out]; omega)
        go_wp2
        all_goals
          go_ret
          exact ⟨ret1_int (by rw [HL.out, HD.out, ckL_nil]; first | rw [if_pos (by omega)] | rw [if_neg (by omega)]), hb⟩


set_option maxRecDepth 100000 in
set_option maxHeartbeats 2000000 in
theorem ref_editErr (a : Option Addr) (m c : Nat) (es : List Sp) (n : Int) (w : World) (he : Spls w a es) (hm : es.length = m) (hm2 : m ≤ 9223372036854775807) :
    Calls Try.prog 16 #[.int .i64 n, .slice a m c] w (CkPost n es w) := by
  by_cases hn : n < 0 ∨ 4096 < n
  · have HE := Lib.hid (ckE_out (es := es) hn)
    rcases hn with hn | hn
    all_goals
      go_enter Try.func16, Try.ntmps16
      go_wp2
      all_goals
        go_ret
        exact ⟨ret1_int HE.out.symm, Below.refl _ _⟩
  · have n0 : 0 ≤ n := by omega
    have n1 : n ≤ 4096 := by omega
    have HC := Lib.hid (ckE_in (es := es) n0 n1)
    have HM := Lib.hid hm
    clear hm hn
    go_enter Try.func16, Try.ntmps16
    go_wp2
    go_loopw [5, 17] (fun u i wr => ∃ (L S : Int) (k : Nat), u = .int .i64 S ∧ i = .int .i64 (k : Int) ∧ k ≤ m ∧ Hid (ckE n es = ckL n L S (es.drop k)) ∧ Hid (k = 0 ∧ L = -1 ∨ 0 < k ∧ L = (sp es (k - 1)).t) ∧ -1 ≤ L ∧ L ≤ n ∧ S ≤ 8192 ∧ n ≤ S + max L 0 ∧ Below w.heap.size w wr) (fun _ i _ => m - (intOf i).toNat)
    case atStart => exact ⟨-1, n, 0, rfl, rfl, by omega, Lib.hid (by rw [HC.out]; rfl), Lib.hid (.inl ⟨rfl, rfl⟩), by omega, by omega, by omega, by omega, Below.refl _ _⟩
    case round =>
      obtain ⟨L, S, k, rfl, rfl, hk, HL, HLL, l1, l2, l3, l4, hb⟩ := hrel
      by_cases hlt : k < m
      · obtain ⟨b1, o1, rfl, hc⟩ := he.at (k := k) (by rw [HM.out]; exact hlt)
        obtain ⟨ax, cx, c0, c1, c2, -, g1, g2, g3⟩ := (hc k (by rw [HM.out]; exact hlt)).keep (below_keeps hb)
        have HS := Lib.hid (drop_sp (es := es) (i := k) (by rw [HM.out]; exact hlt))
        have HT := Lib.hid (show (sp es k).t = (sp es k).t from rfl)
        generalize hs : sp es k = s at *
        obtain ⟨f, t, x⟩ := s
        have HSP := Lib.hid hs
        clear hs HT
        simp only at c0 c1 c2 g1 g2 g3
        have i1 : (k : Int) < (m : Int) := by omega
        rcases Nat.eq_zero_or_pos k with rfl | kpos
        · obtain rfl : L = -1 := by
            rcases HLL.out with ⟨_, h⟩ | ⟨h, _⟩
            · exact h
            · omega
          simp only [Nat.zero_mul, Nat.add_zero] at c0 c1 c2
          have i0 : (0 : Int) < (m : Int) := by omega
          go_upto_region 7 with fail
          have hB := Blk.new wr #[.int .i64 f, .int .i64 t, .slice ax x.length cx] 127
          have hb1 := hb.alloc hb.size (.cells #[.int .i64 f, .int .i64 t, .slice ax x.length cx] 127)
          generalize wr.alloc (.cells #[.int .i64 f, .int .i64 t, .slice ax x.length cx] 127) = w1 at *
          obtain ⟨e0, e1, e2, -⟩ := hB.three
          go_cut [65] (fun v wx => v = .bool (spBad n (-1) ⟨f, t, x⟩) ∧ Blk wx wr.heap.size #[.int .i64 f, .int .i64 t, .slice ax x.length cx] 127 ∧ Below w.heap.size w wx)
          case first =>
            by_cases q1 : f < 0
            · go_wp2
              go_quiet (fail)
              go_wp2
              go_meet
              exact ⟨congrArg Value.bool (spBad_y (by omega)).symm, hB.drewN _, below_drewN hb1 _⟩
            have b1 : decide (f < 0) = false := by simp; omega
            by_cases q2 : t < f
            · go_wp2
              go_quiet (fail)
              go_wp2
              go_meet
              exact ⟨congrArg Value.bool (spBad_y (by omega)).symm, hB.drewN _, below_drewN hb1 _⟩
            have b2 : decide (t < f) = false := by simp; omega
            by_cases q3 : n < t
            · go_wp2
              go_quiet (fail)
              go_wp2
              go_meet
              exact ⟨congrArg Value.bool (spBad_y (by omega)).symm, hB.drewN _, below_drewN hb1 _⟩
            have b3 : decide (n < t) = false := by simp; omega
            by_cases q5 : f = t
            · have b5 : (f == t) = true := by simpa using q5
              have y5 : f ≤ t ∧ t ≤ f := by omega
              clear q5
              by_cases q6 : x.length = 0
              · have b6 : ((x.length : Int) == 0) = true := by first | (rw [beq_iff_eq]; omega) | (rw [beq_eq_false_iff_ne]; omega) | (simp; omega)
                have y6 : x.length ≤ 0 := by omega
                clear q6
                go_wp2
                go_quiet (fail)
                go_wp2
                go_meet
                exact ⟨congrArg Value.bool (spBad_y (by omega)).symm, hB.drewN _, below_drewN hb1 _⟩
              · have b6 : ((x.length : Int) == 0) = false := by first | (rw [beq_iff_eq]; omega) | (rw [beq_eq_false_iff_ne]; omega) | (simp; omega)
                have y6 : 0 < x.length := by omega
                clear q6
                go_wp2
                go_quiet (fail)
                go_wp2
                go_meet
                exact ⟨congrArg Value.bool (spBad_n (by omega)).symm, hB.drewN _, below_drewN hb1 _⟩
            · have b5 : (f == t) = false := by simpa using q5
              have y5 : f < t := by omega
              clear q5
              go_wp2
              go_quiet (fail)
              go_wp2
              go_meet
              exact ⟨congrArg Value.bool (spBad_n (by omega)).symm, hB.drewN _, below_drewN hb1 _⟩
          clear hb hb1 hB e0 e1 e2
          obtain ⟨rfl, hB, hb⟩ := hcut
          obtain ⟨c0, c1, c2, -⟩ := hB.three
          cases hsb : spBad n (-1) ⟨f, t, x⟩ with
          | true =>
            have HB := Lib.hid hsb
            clear hsb
            go_wp2
            go_ret
            exact ⟨ret1_int (by rw [HL.out, HS.out]; exact (ckL_bad HB.out).symm), hb⟩
          | false =>
            obtain ⟨z1, z2, z3, z4⟩ := spBad_no hsb
            simp only at z1 z2 z3 z4
            have HB := Lib.hid hsb
            clear hsb
            go_wp2
            all_goals try
              (go_ret
               exact ⟨ret1_int (by rw [HL.out, HS.out]; exact (ckL_big HB.out (spBig_y (by omega))).symm), hb⟩)
            all_goals
              go_roundw
              case rel => exact ⟨t, _, 0 + 1, rfl, by go_num, by omega, Lib.hid (by rw [HL.out, HS.out]; refine (ckL_step HB.out (spBig_n (by omega))).trans ?_; first | rfl | (congr 1; show S - (t - f) + (x.length : Int) = _; omega)), Lib.hid (.inr ⟨by omega, by rw [Nat.add_sub_cancel, HSP.out]⟩), by omega, by omega, by omega, by omega, hb⟩
              case measure => simp [intOf]; omega
        · have hLL : L = (sp es (k - 1)).t := by
            rcases HLL.out with ⟨h, _⟩ | ⟨_, h⟩
            · omega
            · exact h
          obtain ⟨ax', cx', _, d1, _⟩ := (hc (k - 1) (by rw [HM.out]; omega)).keep (below_keeps hb)
          rw [← hLL] at d1
          have HLZ := Lib.hid hLL
          clear hLL
          go_upto_region 7 with fail
          have hB := Blk.new wr #[.int .i64 f, .int .i64 t, .slice ax x.length cx] 127
          have hb1 := hb.alloc hb.size (.cells #[.int .i64 f, .int .i64 t, .slice ax x.length cx] 127)
          replace d1 := below_keeps (below1 wr (.cells #[.int .i64 f, .int .i64 t, .slice ax x.length cx] 127)) _ _ d1
          generalize wr.alloc (.cells #[.int .i64 f, .int .i64 t, .slice ax x.length cx] 127) = w1 at *
          obtain ⟨e0, e1, e2, -⟩ := hB.three
          go_cut [65] (fun v wx => v = .bool (spBad n L ⟨f, t, x⟩) ∧ Blk wx wr.heap.size #[.int .i64 f, .int .i64 t, .slice ax x.length cx] 127 ∧ Below w.heap.size w wx)
          case first =>
            by_cases q1 : f < 0
            · go_wp2
              go_quiet (fail)
              go_wp2
              go_meet
              exact ⟨congrArg Value.bool (spBad_y (by omega)).symm, hB.drewN _, below_drewN hb1 _⟩
            have b1 : decide (f < 0) = false := by simp; omega
            by_cases q2 : t < f
            · go_wp2
              go_quiet (fail)
              go_wp2
              go_meet
              exact ⟨congrArg Value.bool (spBad_y (by omega)).symm, hB.drewN _, below_drewN hb1 _⟩
            have b2 : decide (t < f) = false := by simp; omega
            by_cases q3 : n < t
            · go_wp2
              go_quiet (fail)
              go_wp2
              go_meet
              exact ⟨congrArg Value.bool (spBad_y (by omega)).symm, hB.drewN _, below_drewN hb1 _⟩
            have b3 : decide (n < t) = false := by simp; omega
            have i2 : decide (0 < k) = true := by simp; omega
            have i3 : (0 : Int) ≤ (k : Int) - 1 := by omega
            have i4 : (k : Int) - 1 < (m : Int) := by omega
            have i5 : ((k : Int) - 1).toNat = k - 1 := by omega
            have iw : IntKind.i64.wrap ((k : Int) - 1) = (k : Int) - 1 := IntWalk.i64_in _ (by omega)
            by_cases q4 : f ≤ L
            · go_wp2
              go_quiet (fail)
              go_wp2
              go_meet
              exact ⟨congrArg Value.bool (spBad_y (by omega)).symm, hB.drewN _, below_drewN hb1 _⟩
            have b4 : decide (f ≤ L) = false := by simp; omega
            by_cases q5 : f = t
            · have b5 : (f == t) = true := by simpa using q5
              have y5 : f ≤ t ∧ t ≤ f := by omega
              clear q5
              by_cases q6 : x.length = 0
              · have b6 : ((x.length : Int) == 0) = true := by first | (rw [beq_iff_eq]; omega) | (rw [beq_eq_false_iff_ne]; omega) | (simp; omega)
                have y6 : x.length ≤ 0 := by omega
                clear q6
                go_wp2
                go_quiet (fail)
                go_wp2
                go_meet
                exact ⟨congrArg Value.bool (spBad_y (by omega)).symm, hB.drewN _, below_drewN hb1 _⟩
              · have b6 : ((x.length : Int) == 0) = false := by first | (rw [beq_iff_eq]; omega) | (rw [beq_eq_false_iff_ne]; omega) | (simp; omega)
                have y6 : 0 < x.length := by omega
                clear q6
                go_wp2
                go_quiet (fail)
                go_wp2
                go_meet
                exact ⟨congrArg Value.bool (spBad_n (by omega)).symm, hB.drewN _, below_drewN hb1 _⟩
            · have b5 : (f == t) = false := by simpa using q5
              have y5 : f < t := by omega
              clear q5
              go_wp2
              go_quiet (fail)
              go_wp2
              go_meet
              exact ⟨congrArg Value.bool (spBad_n (by omega)).symm, hB.drewN _, below_drewN hb1 _⟩
          clear hb hb1 hB e0 e1 e2
          obtain ⟨rfl, hB, hb⟩ := hcut
          obtain ⟨c0, c1, c2, -⟩ := hB.three
          cases hsb : spBad n L ⟨f, t, x⟩ with
          | true =>
            have HB := Lib.hid hsb
            clear hsb
            go_wp2
            go_ret
            exact ⟨ret1_int (by rw [HL.out, HS.out]; exact (ckL_bad HB.out).symm), hb⟩
          | false =>
            obtain ⟨z1, z2, z3, z4⟩ := spBad_no hsb
            simp only at z1 z2 z3 z4
            have HB := Lib.hid hsb
            clear hsb
            go_wp2
            all_goals try
              (go_ret
               exact ⟨ret1_int (by rw [HL.out, HS.out]; exact (ckL_big HB.out (spBig_y (by omega))).symm), hb⟩)
            all_goals
              go_roundw
              case rel => exact ⟨t, _, k + 1, rfl, by go_num, by omega, Lib.hid (by rw [HL.out, HS.out]; refine (ckL_step HB.out (spBig_n (by omega))).trans ?_; first | rfl | (congr 1; show S - (t - f) + (x.length : Int) = _; omega)), Lib.hid (.inr ⟨by omega, by rw [Nat.add_sub_cancel, HSP.out]⟩), by omega, by omega, by omega, by omega, hb⟩
              case measure => simp [intOf]; omega
      · have HD := Lib.hid (show List.drop k es = [] by rw [List.drop_eq_nil_iff]; rw [HM.out]; omega)
        go_wp2
        all_goals
          go_ret
          exact ⟨ret1_int (by rw [HL.out, HD.out, ckL_nil]; first | rw [if_pos (by omega)] | rw [if_neg (by omega)]), hb⟩

end Go.Proofs.Ytbgbcmfgncneiaa
