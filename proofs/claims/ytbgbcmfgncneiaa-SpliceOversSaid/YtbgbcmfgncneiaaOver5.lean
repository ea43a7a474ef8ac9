/- Contract of splice.Over. -/
import Derived.Test.YtbgbcmfgncneiaaOver4
namespace Go.Proofs.Ytbgbcmfgncneiaa
open Go.RowKit
set_option linter.unusedVariables false
set_option linter.unusedSimpArgs false

/-- the rounds of splice.Over: ahead of place k -/
def OvI (n : Nat) (ea eb : List Sp) (ahead : Bool) (w : World) (X Y B k : Nat) (wr : World) : Prop := ∃ b ea' eb', BAt w.heap.size wr B b ∧ RAt w wr X ea' ∧ RAt w wr Y eb' ∧ Hid (rest k ea' = rest k ea) ∧ Hid (rest k eb' = rest k eb) ∧
  Hid (b.toF = (signsP n ea eb ahead k).foldl stepF ⟨[], 0, false⟩) ∧ Bd b ((k : Int) * 4097) ((k : Int) * 4096) ∧ Below w.heap.size w wr
def OvPost (n : Nat) (ea eb : List Sp) (ahead : Bool) (w : World) (e : Ending) (w' : World) : Prop := ∃ v us, e = .returned (.tuple #[v, .int .i64 0]) ∧ SOwn w.heap.size w' v us (ovP n ea eb ahead) ∧ Below w.heap.size w w'
theorem RAt.blk {w0 w : World} {X : Nat} {es : List Sp} (h : RAt w0 w X es) : ∃ cs, Blk w X cs 145 := by
  obtain ⟨a, n, c, h, -⟩ := h
  exact ⟨_, h⟩
theorem BAt.grownR {base : Nat} {w0 w w' : World} {B X : Nat} {b : BSt} {es : List Sp} (h : BAt base w B b) (hX : RAt w0 w X es) (hg : w.grownBy w' (some X)) : BAt base w' B b := by
  obtain ⟨cs, hb⟩ := hX.blk
  exact h.grownX hb hg
theorem Rd.x {w : World} {a : Option Addr} {n c : Nat} {x : List Int} (h : Rd w a n c x) : x.length = n := h.2.1
theorem ov_next {n : Nat} {ea eb : List Sp} {ahead : Bool} {w w' : World} {X Y B k : Nat} {b b' : BSt} (hb : BAt w.heap.size w' B b') (hx : RAt w w' X (rest k ea)) (hy : RAt w w' Y (rest k eb))
    (hr : roundB n ahead k (txtP k [] ea) (txtP k [] eb).length (goesB ea k) (goesB eb k) b = b') (hf : Hid (b.toF = (signsP n ea eb ahead k).foldl stepF ⟨[], 0, false⟩))
    (hd : Bd b' (((k + 1 : Nat) : Int) * 4097) (((k + 1 : Nat) : Int) * 4096)) (hbe : Below w.heap.size w w') : OvI n ea eb ahead w X Y B (k + 1) w' := by
  refine ⟨b', _, _, hb, hx, hy, Lib.hid ?_, Lib.hid ?_, Lib.hid ?_, hd, hbe⟩
  · have := rest_next (k : Int) ea
    rw [show ((k + 1 : Nat) : Int) = (k : Int) + 1 from by omega]; exact this
  · have := rest_next (k : Int) eb
    rw [show ((k + 1 : Nat) : Int) = (k : Int) + 1 from by omega]; exact this
  · rw [← hr, round_toF, hf.out, signsP, List.foldl_append]

theorem txtP_len {n : Int} {es : List Sp} : ∀ {last : Int} {x : List Int}, Good n last es → x.length ≤ 4096 → ∀ i, (txtP i x es).length ≤ 4096 := by
  induction es with
  | nil => intro last x h hx i; exact hx
  | cons s r ih =>
    intro last x h hx i
    obtain ⟨a, b, c, d, e, g⟩ := h
    simp only [txtP]
    refine ih g ?_ i
    split
    · exact e
    · exact hx
def ReadP2 (w : World) (X : Nat) (ea : List Sp) (k : Nat) (wr : World) (e : Ending) (w' : World) : Prop := ∃ ta tn tc g, e = .returned (.tuple #[.slice ta tn tc, .bool g]) ∧ Hid (goesB ea k = g) ∧ Rd w ta tn tc (txtP k [] ea) ∧ tn ≤ 4096 ∧ RAt w w' X (rest k ea) ∧ Below w.heap.size w w' ∧ wr.grownBy w' (some X)
theorem reader_at2 (w0 : World) (X : Nat) (ea ea' : List Sp) (k : Nat) (n : Int) (w : World) (h : RAt w0 w X ea') (hbw : Below w0.heap.size w0 w) (hg : Good n (-1) ea) (hr : rest (k : Int) ea' = rest k ea) :
    Calls Try.prog 95 #[.pointer (some ⟨X, 0, none⟩), .int .i64 (k : Int)] w (ReadP2 w0 X ea k w) := by
  refine (reader_at w0 X ea' k w h hbw).mono ?_
  rintro e w' ⟨ta, tn, tc, rfl, h1, h2, h3, h4⟩
  rw [hr, (read_rest hg k).1] at h1
  rw [hr] at h2
  rw [hr, (read_rest hg k).2]
  exact ⟨ta, tn, tc, _, rfl, Lib.hid rfl, h1, by rw [← h1.x]; exact txtP_len hg (by simp) _, h2, h3, h4⟩
theorem BAt.below0 {base B : Nat} {w : World} {b : BSt} (h : BAt base w B b) : base ≤ B := by obtain ⟨_, _, _, _, _, _, _, _, _, hbB, _⟩ := h; exact hbB

set_option maxRecDepth 100000 in
set_option maxHeartbeats 4000000 in
theorem splice_over_f (n : Nat) (aa ab : Option Addr) (m1 c1 m2 c2 : Nat) (ea eb : List Sp) (w : World)
    (ha : Spls w aa ea) (hm1 : ea.length = m1) (hmc1 : m1 ≤ c1) (hc1 : c1 ≤ 9223372036854775807) (hb : Spls w ab eb) (hm2 : eb.length = m2) (hmc2 : m2 ≤ c2) (hc2 : c2 ≤ 9223372036854775807)
    (hok1 : ckE n ea = 0) (hok2 : ckE n eb = 0) :
    Calls Try.prog 37 #[.int .i64 n, .slice aa m1 c1, .slice ab m2 c2, .bool false] w (OvPost n ea eb false w) := by
  obtain ⟨g1, g2, hg1, -⟩ := ckE_good hok1
  obtain ⟨-, -, hg2, -⟩ := ckE_good hok2
  have HG1 := Lib.hid hg1
  have HG2 := Lib.hid hg2
  have HOK1 := Lib.hid hok1
  have HOK2 := Lib.hid hok2
  have HM1 := Lib.hid hm1
  have HM2 := Lib.hid hm2
  clear hg1 hg2 hok1 hok2 hm1 hm2
  go_enter Try.func37, Try.ntmps37
  go_wp2_with fail
  refine (splice_check aa m1 c1 ea n w ha HM1.out (by omega)).mono ?_
  rintro e w1 ⟨rfl, hb1⟩
  rw [HOK1.out]
  go_wp2_with fail
  refine (splice_check ab m2 c2 eb n w1 (hb.below hb1) HM2.out (by omega)).mono ?_
  rintro e w2 ⟨rfl, hb2⟩
  rw [HOK2.out]
  have hb3 := below_then hb1 hb1.size hb2
  clear hb1 hb2
  go_upto_region 9 with fail
  have hsz := hb3.size
  have hBX := ((Blk.new w2 #[.slice aa m1 c1] 145).alloc (.cells #[.slice ab m2 c2] 145)).alloc (.cells #[.slice none 0 0, .int .i64 0, .bool false, .int .i64 0, .int .i64 0, .slice none 0 0] 148)
  have hBY := (Blk.new (w2.alloc (.cells #[.slice aa m1 c1] 145)) #[.slice ab m2 c2] 145).alloc (.cells #[.slice none 0 0, .int .i64 0, .bool false, .int .i64 0, .int .i64 0, .slice none 0 0] 148)
  have hBB := Blk.new ((w2.alloc (.cells #[.slice aa m1 c1] 145)).alloc (.cells #[.slice ab m2 c2] 145)) #[.slice none 0 0, .int .i64 0, .bool false, .int .i64 0, .int .i64 0, .slice none 0 0] 148
  have hb6 := ((hb3.alloc hsz (.cells #[.slice aa m1 c1] 145)).alloc (size_alloc_le hsz _) (.cells #[.slice ab m2 c2] 145)).alloc (size_alloc_le (size_alloc_le hsz _) _) (.cells #[.slice none 0 0, .int .i64 0, .bool false, .int .i64 0, .int .i64 0, .slice none 0 0] 148)
  simp only [World.size_alloc] at hBX hBY hBB
  generalize ((w2.alloc (.cells #[.slice aa m1 c1] 145)).alloc (.cells #[.slice ab m2 c2] 145)).alloc (.cells #[.slice none 0 0, .int .i64 0, .bool false, .int .i64 0, .int .i64 0, .slice none 0 0] 148) = w3 at *
  have hX3 : RAt w w3 w2.heap.size ea := ⟨aa, m1, c1, hBX, ha, HM1.out, hmc1, hc1, hsz⟩
  have hY3 : RAt w w3 (w2.heap.size + 1) eb := ⟨ab, m2, c2, hBY, hb, HM2.out, hmc2, hc2, by omega⟩
  have hB3 : BAt w.heap.size w3 (w2.heap.size + 1 + 1) ⟨[], 0, false, ⟨0, 0, []⟩⟩ := ⟨.slice none 0 0, [], none, 0, 0, hBB, SOwn.nil _ _, Own.nil _ _ _, fun h => by simp at h, by omega, hb6.size⟩
  have hne : w2.heap.size ≠ w2.heap.size + 1 := by omega
  have hne2 : w2.heap.size + 1 ≠ w2.heap.size := by omega
  have hI3 : OvI n ea eb false w w2.heap.size (w2.heap.size + 1) (w2.heap.size + 1 + 1) 0 w3 := ⟨_, ea, eb, hB3, hX3, hY3, Lib.hid rfl, Lib.hid rfl, Lib.hid rfl, ⟨by simp, by simp, by simp, by simp⟩, hb6⟩
  clear hX3 hY3 hB3 hBX hBY hBB hb3 hsz
  generalize w2.heap.size + 1 + 1 = B at *
  generalize w2.heap.size + 1 = Y at *
  generalize w2.heap.size = X at *
  clear ha hb hmc1 hmc2 hc1 hc2 HM1 HM2 HOK1 HOK2 hb6
  have iw1 : IntKind.i64.wrap ((n : Int) + 1) = (n : Int) + 1 := IntWalk.i64_in _ (by omega)
  go_wp2
  go_loopw [42] (fun v wr => ∃ k : Nat, v = .int .i64 (k : Int) ∧ k ≤ n + 1 ∧ OvI n ea eb false w X Y B k wr) (fun v _ => n + 1 - (intOf v).toNat)
  case atStart => exact ⟨0, rfl, by omega, hI3⟩
  case round =>
    clear hI3
    obtain ⟨k, rfl, hk, b, ea', eb', hB, hX, hY, HR1, HR2, HF, hbd, hbr⟩ := hrel
    by_cases hlt : k < n + 1
    · have i1 : (k : Int) < (n : Int) + 1 := by omega
      go_wp2_with fail
      refine (reader_at2 w X ea ea' k n wr hX hbr HG1.out HR1.out).mono ?_
      rintro e w4 ⟨ta, tn, tc, gA, rfl, HGA, hrd1, ht1, hX4, hbr4, hg4⟩
      have hB4 := hB.grownR hX hg4
      have hY4 := hY.grownOther hne2 hg4
      clear hB hX hY hg4 hbr
      go_wp2_with fail
      refine (reader_at2 w Y eb eb' k n w4 hY4 hbr4 HG2.out HR2.out).mono ?_
      rintro e w5 ⟨sa, sn, sc, gB, rfl, HGB, hrd2, ht2, hY5, hbr5, hg5⟩
      have hB5 := hB4.grownR hY4 hg5
      have hX5 := hX4.grownOther hne hg5
      clear hB4 hX4 hY4 hg5 hbr4 HR1 HR2
      go_wp2
      go_loopw [63] (fun v wr => ∃ j : Nat, v = .int .i64 (j : Int) ∧ j ≤ sn ∧ BAt w.heap.size wr B (keepsB j b) ∧ Hid (Keeps w5 wr) ∧ Below w.heap.size w wr) (fun v _ => sn - (intOf v).toNat)
      case atStart => exact ⟨0, rfl, by omega, hB5, Lib.hid (Keeps.refl _), hbr5⟩
      case round =>
        clear hB5 hbr5
        obtain ⟨j, rfl, hj, hBj, HK, hbj⟩ := hrel
        have hdj := hbd.keeps j
        by_cases hlt2 : j < sn
        · have i2 : (j : Int) < (sn : Int) := by omega
          go_wp2_with fail
          refine (builder_keep w.heap.size B (keepsB j b) _ hBj hdj.p0 (by have := hdj.p1; omega) (by have := hdj.o; have := hdj.p1; omega)).mono ?_
          rintro e w7 ⟨rfl, hB7, hb7, hk7⟩
          go_wp2
          go_roundw
          case rel => exact ⟨j + 1, by go_num, by omega, hB7, Lib.hid (HK.out.trans hk7), hbj.trans hb7⟩
          case measure => simp [intOf]; omega
        · obtain rfl : sn = j := by omega
          have hX6 := hX5.keeps HK.out
          have hY6 := hY5.keeps HK.out
          clear hX5 hY5 HK
          go_wp2_with fail
          refine (builder_put w.heap.size B (keepsB sn b) (txtP k [] ea) ta tn tc _ hBj (fun W hW => (hrd1.below (hbj.trans hW)).1) hrd1.x ht1 hrd1.2.2.2.2 (by have := (hdj.begin (by omega)).x; omega)).mono ?_
          rintro e w8 ⟨rfl, hB8, hb8, hk8⟩
          have hd8 := hdj.put (m := txtP k [] ea) (by omega) (by rw [hrd1.x]; omega)
          have hX8 := hX6.keeps hk8
          have hY8 := hY6.keeps hk8
          have hb9 := hbj.trans hb8
          clear hX6 hY6 hk8 hb8 hbj hBj
          by_cases hkn : k < n
          · have i3 : (k : Int) < (n : Int) := by omega
            have e3 : ((k : Int) == (n : Int)) = false := by simp; omega
            cases gB with
            | true =>
              go_wp2
              go_roundw
              case rel => exact ⟨k + 1, by go_num, by omega, ov_next hB8 hX8 hY8 (by simp [roundB, hrd2.x, HGA.out, HGB.out]) HF (hd8.mono (by omega) (by omega)) hb9⟩
              case measure => simp [intOf]; omega
            | false =>
              cases gA with
              | true =>
                go_wp2_with fail
                refine (builder_drop w.heap.size B _ _ hB8 hd8.p0 (by have := hd8.p1; omega)).mono ?_
                rintro e w10 ⟨rfl, hB10, hb10, hk10⟩
                go_wp2
                go_roundw
                case rel => exact ⟨k + 1, by go_num, by omega, ov_next hB10 (hX8.keeps hk10) (hY8.keeps hk10) (by simp [roundB, hrd2.x, HGA.out, HGB.out, hkn]) HF ((hd8.drop (by omega)).mono (by omega) (by omega)) (hb9.trans hb10)⟩
                case measure => simp [intOf]; omega
              | false =>
                go_wp2_with fail
                refine (builder_keep w.heap.size B _ _ hB8 hd8.p0 (by have := hd8.p1; omega) (by have := hd8.o; have := hd8.p1; omega)).mono ?_
                rintro e w10 ⟨rfl, hB10, hb10, hk10⟩
                go_wp2
                go_roundw
                case rel => exact ⟨k + 1, by go_num, by omega, ov_next hB10 (hX8.keeps hk10) (hY8.keeps hk10) (by simp [roundB, hrd2.x, HGA.out, HGB.out, hkn]) HF ((hd8.keep).mono (by omega) (by omega)) (hb9.trans hb10)⟩
                case measure => simp [intOf]; omega
          · have e3 : ((k : Int) == (n : Int)) = true := by simp; omega
            go_wp2
            go_roundw
            case rel => exact ⟨k + 1, by go_num, by omega, ov_next hB8 hX8 hY8 (by simp [roundB, hrd2.x, HGA.out, HGB.out, hkn]) HF (hd8.mono (by omega) (by omega)) hb9⟩
            case measure => simp [intOf]; omega
    · have i1 : decide ((k : Int) < (n : Int) + 1) = false := by simp; omega
      have hkn : k = n + 1 := by omega
      have HKN := Lib.hid hkn
      clear hkn
      go_wp2_with fail
      refine (builder_keep w.heap.size B b _ hB hbd.p0 (by have := hbd.p1; omega) (by have := hbd.o; have := hbd.p1; omega)).mono ?_
      rintro e w4 ⟨rfl, hB4, hb4, -⟩
      obtain ⟨ov, us, na, nn, nc, hBk, hs, -, -, -, -⟩ := hB4
      unfold BSt.cells at hBk
      obtain ⟨q0, -⟩ := hBk.six
      have HS := Lib.hid hs
      clear hs hBk
      go_wp2
      go_ret2
      refine ⟨ov, us, rfl, ?_, hbr.trans hb4⟩
      have hs := HS.out
      have hf := HF.out
      rw [HKN.out] at hf
      unfold ovP
      rw [← hf]
      exact hs

set_option maxRecDepth 100000 in
set_option maxHeartbeats 4000000 in
theorem splice_over_t (n : Nat) (aa ab : Option Addr) (m1 c1 m2 c2 : Nat) (ea eb : List Sp) (w : World)
    (ha : Spls w aa ea) (hm1 : ea.length = m1) (hmc1 : m1 ≤ c1) (hc1 : c1 ≤ 9223372036854775807) (hb : Spls w ab eb) (hm2 : eb.length = m2) (hmc2 : m2 ≤ c2) (hc2 : c2 ≤ 9223372036854775807)
    (hok1 : ckE n ea = 0) (hok2 : ckE n eb = 0) :
    Calls Try.prog 37 #[.int .i64 n, .slice aa m1 c1, .slice ab m2 c2, .bool true] w (OvPost n ea eb true w) := by
  obtain ⟨g1, g2, hg1, -⟩ := ckE_good hok1
  obtain ⟨-, -, hg2, -⟩ := ckE_good hok2
  have HG1 := Lib.hid hg1
  have HG2 := Lib.hid hg2
  have HOK1 := Lib.hid hok1
  have HOK2 := Lib.hid hok2
  have HM1 := Lib.hid hm1
  have HM2 := Lib.hid hm2
  clear hg1 hg2 hok1 hok2 hm1 hm2
  go_enter Try.func37, Try.ntmps37
  go_wp2_with fail
  refine (splice_check aa m1 c1 ea n w ha HM1.out (by omega)).mono ?_
  rintro e w1 ⟨rfl, hb1⟩
  rw [HOK1.out]
  go_wp2_with fail
  refine (splice_check ab m2 c2 eb n w1 (hb.below hb1) HM2.out (by omega)).mono ?_
  rintro e w2 ⟨rfl, hb2⟩
  rw [HOK2.out]
  have hb3 := below_then hb1 hb1.size hb2
  clear hb1 hb2
  go_upto_region 9 with fail
  have hsz := hb3.size
  have hBX := ((Blk.new w2 #[.slice aa m1 c1] 145).alloc (.cells #[.slice ab m2 c2] 145)).alloc (.cells #[.slice none 0 0, .int .i64 0, .bool false, .int .i64 0, .int .i64 0, .slice none 0 0] 148)
  have hBY := (Blk.new (w2.alloc (.cells #[.slice aa m1 c1] 145)) #[.slice ab m2 c2] 145).alloc (.cells #[.slice none 0 0, .int .i64 0, .bool false, .int .i64 0, .int .i64 0, .slice none 0 0] 148)
  have hBB := Blk.new ((w2.alloc (.cells #[.slice aa m1 c1] 145)).alloc (.cells #[.slice ab m2 c2] 145)) #[.slice none 0 0, .int .i64 0, .bool false, .int .i64 0, .int .i64 0, .slice none 0 0] 148
  have hb6 := ((hb3.alloc hsz (.cells #[.slice aa m1 c1] 145)).alloc (size_alloc_le hsz _) (.cells #[.slice ab m2 c2] 145)).alloc (size_alloc_le (size_alloc_le hsz _) _) (.cells #[.slice none 0 0, .int .i64 0, .bool false, .int .i64 0, .int .i64 0, .slice none 0 0] 148)
  simp only [World.size_alloc] at hBX hBY hBB
  generalize ((w2.alloc (.cells #[.slice aa m1 c1] 145)).alloc (.cells #[.slice ab m2 c2] 145)).alloc (.cells #[.slice none 0 0, .int .i64 0, .bool false, .int .i64 0, .int .i64 0, .slice none 0 0] 148) = w3 at *
  have hX3 : RAt w w3 w2.heap.size ea := ⟨aa, m1, c1, hBX, ha, HM1.out, hmc1, hc1, hsz⟩
  have hY3 : RAt w w3 (w2.heap.size + 1) eb := ⟨ab, m2, c2, hBY, hb, HM2.out, hmc2, hc2, by omega⟩
  have hB3 : BAt w.heap.size w3 (w2.heap.size + 1 + 1) ⟨[], 0, false, ⟨0, 0, []⟩⟩ := ⟨.slice none 0 0, [], none, 0, 0, hBB, SOwn.nil _ _, Own.nil _ _ _, fun h => by simp at h, by omega, hb6.size⟩
  have hne : w2.heap.size ≠ w2.heap.size + 1 := by omega
  have hne2 : w2.heap.size + 1 ≠ w2.heap.size := by omega
  have hI3 : OvI n ea eb true w w2.heap.size (w2.heap.size + 1) (w2.heap.size + 1 + 1) 0 w3 := ⟨_, ea, eb, hB3, hX3, hY3, Lib.hid rfl, Lib.hid rfl, Lib.hid rfl, ⟨by simp, by simp, by simp, by simp⟩, hb6⟩
  clear hX3 hY3 hB3 hBX hBY hBB hb3 hsz
  generalize w2.heap.size + 1 + 1 = B at *
  generalize w2.heap.size + 1 = Y at *
  generalize w2.heap.size = X at *
  clear ha hb hmc1 hmc2 hc1 hc2 HM1 HM2 HOK1 HOK2 hb6
  have iw1 : IntKind.i64.wrap ((n : Int) + 1) = (n : Int) + 1 := IntWalk.i64_in _ (by omega)
  go_wp2
  go_loopw [42] (fun v wr => ∃ k : Nat, v = .int .i64 (k : Int) ∧ k ≤ n + 1 ∧ OvI n ea eb true w X Y B k wr) (fun v _ => n + 1 - (intOf v).toNat)
  case atStart => exact ⟨0, rfl, by omega, hI3⟩
  case round =>
    clear hI3
    obtain ⟨k, rfl, hk, b, ea', eb', hB, hX, hY, HR1, HR2, HF, hbd, hbr⟩ := hrel
    by_cases hlt : k < n + 1
    · have i1 : (k : Int) < (n : Int) + 1 := by omega
      go_wp2_with fail
      refine (reader_at2 w X ea ea' k n wr hX hbr HG1.out HR1.out).mono ?_
      rintro e w4 ⟨ta, tn, tc, gA, rfl, HGA, hrd1, ht1, hX4, hbr4, hg4⟩
      have hB4 := hB.grownR hX hg4
      have hY4 := hY.grownOther hne2 hg4
      clear hB hX hY hg4 hbr
      go_wp2_with fail
      refine (reader_at2 w Y eb eb' k n w4 hY4 hbr4 HG2.out HR2.out).mono ?_
      rintro e w5 ⟨sa, sn, sc, gB, rfl, HGB, hrd2, ht2, hY5, hbr5, hg5⟩
      have hB5 := hB4.grownR hY4 hg5
      have hX5 := hX4.grownOther hne hg5
      clear hB4 hX4 hY4 hg5 hbr4 HR1 HR2
      go_wp2_with fail
      refine (builder_put w.heap.size B b (txtP k [] ea) ta tn tc _ hB5 (fun W hW => (hrd1.below (hbr5.trans hW)).1) hrd1.x ht1 hrd1.2.2.2.2 (by have := (hbd.begin (by omega)).x; omega)).mono ?_
      rintro e w6 ⟨rfl, hB6, hb6, hk6⟩
      have hd6 := hbd.put (m := txtP k [] ea) (by omega) (by rw [hrd1.x]; omega)
      replace hX5 := hX5.keeps hk6
      replace hY5 := hY5.keeps hk6
      replace hbr5 := hbr5.trans hb6
      clear hB5 hk6 hb6
      go_wp2
      go_loopw [63] (fun v wr => ∃ j : Nat, v = .int .i64 (j : Int) ∧ j ≤ sn ∧ BAt w.heap.size wr B (keepsB j (putB b (txtP k [] ea))) ∧ Hid (Keeps w6 wr) ∧ Below w.heap.size w wr) (fun v _ => sn - (intOf v).toNat)
      case atStart => exact ⟨0, rfl, by omega, hB6, Lib.hid (Keeps.refl _), hbr5⟩
      case round =>
        clear hB6 hbr5
        obtain ⟨j, rfl, hj, hBj, HK, hbj⟩ := hrel
        have hdj := hd6.keeps j
        by_cases hlt2 : j < sn
        · have i2 : (j : Int) < (sn : Int) := by omega
          go_wp2_with fail
          refine (builder_keep w.heap.size B (keepsB j (putB b (txtP k [] ea))) _ hBj hdj.p0 (by have := hdj.p1; omega) (by have := hdj.o; have := hdj.p1; omega)).mono ?_
          rintro e w7 ⟨rfl, hB7, hb7, hk7⟩
          go_wp2
          go_roundw
          case rel => exact ⟨j + 1, by go_num, by omega, hB7, Lib.hid (HK.out.trans hk7), hbj.trans hb7⟩
          case measure => simp [intOf]; omega
        · obtain rfl : sn = j := by omega
          have hX8 := hX5.keeps HK.out
          have hY8 := hY5.keeps HK.out
          have hd8 := hdj
          have hB8 := hBj
          have hb9 := hbj
          clear hX5 hY5 HK hbj hBj hdj
          by_cases hkn : k < n
          · have i3 : (k : Int) < (n : Int) := by omega
            have e3 : ((k : Int) == (n : Int)) = false := by simp; omega
            cases gB with
            | true =>
              go_wp2
              go_roundw
              case rel => exact ⟨k + 1, by go_num, by omega, ov_next hB8 hX8 hY8 (by simp [roundB, hrd2.x, HGA.out, HGB.out]) HF (hd8.mono (by omega) (by omega)) hb9⟩
              case measure => simp [intOf]; omega
            | false =>
              cases gA with
              | true =>
                go_wp2_with fail
                refine (builder_drop w.heap.size B _ _ hB8 hd8.p0 (by have := hd8.p1; omega)).mono ?_
                rintro e w10 ⟨rfl, hB10, hb10, hk10⟩
                go_wp2
                go_roundw
                case rel => exact ⟨k + 1, by go_num, by omega, ov_next hB10 (hX8.keeps hk10) (hY8.keeps hk10) (by simp [roundB, hrd2.x, HGA.out, HGB.out, hkn]) HF ((hd8.drop (by omega)).mono (by omega) (by omega)) (hb9.trans hb10)⟩
                case measure => simp [intOf]; omega
              | false =>
                go_wp2_with fail
                refine (builder_keep w.heap.size B _ _ hB8 hd8.p0 (by have := hd8.p1; omega) (by have := hd8.o; have := hd8.p1; omega)).mono ?_
                rintro e w10 ⟨rfl, hB10, hb10, hk10⟩
                go_wp2
                go_roundw
                case rel => exact ⟨k + 1, by go_num, by omega, ov_next hB10 (hX8.keeps hk10) (hY8.keeps hk10) (by simp [roundB, hrd2.x, HGA.out, HGB.out, hkn]) HF ((hd8.keep).mono (by omega) (by omega)) (hb9.trans hb10)⟩
                case measure => simp [intOf]; omega
          · have e3 : ((k : Int) == (n : Int)) = true := by simp; omega
            go_wp2
            go_roundw
            case rel => exact ⟨k + 1, by go_num, by omega, ov_next hB8 hX8 hY8 (by simp [roundB, hrd2.x, HGA.out, HGB.out, hkn]) HF (hd8.mono (by omega) (by omega)) hb9⟩
            case measure => simp [intOf]; omega
    · have i1 : decide ((k : Int) < (n : Int) + 1) = false := by simp; omega
      have hkn : k = n + 1 := by omega
      have HKN := Lib.hid hkn
      clear hkn
      go_wp2_with fail
      refine (builder_keep w.heap.size B b _ hB hbd.p0 (by have := hbd.p1; omega) (by have := hbd.o; have := hbd.p1; omega)).mono ?_
      rintro e w4 ⟨rfl, hB4, hb4, -⟩
      obtain ⟨ov, us, na, nn, nc, hBk, hs, -, -, -, -⟩ := hB4
      unfold BSt.cells at hBk
      obtain ⟨q0, -⟩ := hBk.six
      have HS := Lib.hid hs
      clear hs hBk
      go_wp2
      go_ret2
      refine ⟨ov, us, rfl, ?_, hbr.trans hb4⟩
      have hs := HS.out
      have hf := HF.out
      rw [HKN.out] at hf
      unfold ovP
      rw [← hf]
      exact hs


/-- any answer of splice.Over -/
def ovX (n : Int) (ea eb : List Sp) (ahead : Bool) : List Sp := if ckE n ea = 0 ∧ ckE n eb = 0 then ovP n.toNat ea eb ahead else []
def ovE (n : Int) (ea eb : List Sp) : Int := if ckE n ea = 0 then ckE n eb else ckE n ea
def OvAny (E : Int) (xs : List Sp) (w : World) (e : Ending) (w' : World) : Prop := ∃ v us, e = .returned (.tuple #[v, .int .i64 E]) ∧ SOwn w.heap.size w' v us xs ∧ Below w.heap.size w w'
set_option maxRecDepth 100000 in
theorem splice_over_bad1 (n : Int) (aa ab : Option Addr) (m1 c1 m2 c2 : Nat) (ea : List Sp) (E : Int) (ahead : Bool) (w : World)
    (ha : Spls w aa ea) (hm1 : ea.length = m1) (hm12 : m1 ≤ 9223372036854775807) (hE : ckE n ea = E) (hok : E ≠ 0) :
    Calls Try.prog 37 #[.int .i64 n, .slice aa m1 c1, .slice ab m2 c2, .bool ahead] w (OvAny E [] w) := by
  have HE := Lib.hid hE
  have g : (E != 0) = true := by simpa using hok
  clear hE hok
  go_enter Try.func37, Try.ntmps37
  go_wp2_with fail
  refine (splice_check aa m1 c1 ea n w ha hm1 hm12).mono ?_
  rintro e w1 ⟨rfl, hb⟩
  rw [HE.out]
  go_wp2
  go_ret2
  exact ⟨_, [], rfl, SOwn.nil _ _, hb⟩
set_option maxRecDepth 100000 in
theorem splice_over_bad2 (n : Int) (aa ab : Option Addr) (m1 c1 m2 c2 : Nat) (ea eb : List Sp) (E : Int) (ahead : Bool) (w : World)
    (ha : Spls w aa ea) (hm1 : ea.length = m1) (hm12 : m1 ≤ 9223372036854775807) (hb : Spls w ab eb) (hm2 : eb.length = m2) (hm22 : m2 ≤ 9223372036854775807) (hok1 : ckE n ea = 0) (hE : ckE n eb = E) (hok : E ≠ 0) :
    Calls Try.prog 37 #[.int .i64 n, .slice aa m1 c1, .slice ab m2 c2, .bool ahead] w (OvAny E [] w) := by
  have HE := Lib.hid hE
  have HO := Lib.hid hok1
  have g : (E != 0) = true := by simpa using hok
  clear hE hok hok1
  go_enter Try.func37, Try.ntmps37
  go_wp2_with fail
  refine (splice_check aa m1 c1 ea n w ha hm1 hm12).mono ?_
  rintro e w1 ⟨rfl, hb1⟩
  rw [HO.out]
  go_wp2_with fail
  refine (splice_check ab m2 c2 eb n w1 (hb.below hb1) hm2 hm22).mono ?_
  rintro e w2 ⟨rfl, hb2⟩
  rw [HE.out]
  go_wp2
  go_ret2
  exact ⟨_, [], rfl, SOwn.nil _ _, below_then hb1 hb1.size hb2⟩
theorem splice_over_any (n : Int) (aa ab : Option Addr) (m1 c1 m2 c2 : Nat) (ea eb : List Sp) (ahead : Bool) (w : World)
    (ha : Spls w aa ea) (hm1 : ea.length = m1) (hmc1 : m1 ≤ c1) (hc1 : c1 ≤ 9223372036854775807) (hb : Spls w ab eb) (hm2 : eb.length = m2) (hmc2 : m2 ≤ c2) (hc2 : c2 ≤ 9223372036854775807) :
    Calls Try.prog 37 #[.int .i64 n, .slice aa m1 c1, .slice ab m2 c2, .bool ahead] w (OvAny (ovE n ea eb) (ovX n ea eb ahead) w) := by
  unfold ovE ovX
  by_cases h1 : ckE n ea = 0
  · by_cases h2 : ckE n eb = 0
    · rw [if_pos h1, if_pos ⟨h1, h2⟩, h2]
      obtain ⟨g1, -, -, -⟩ := ckE_good h1
      obtain ⟨N, rfl⟩ := Int.eq_ofNat_of_zero_le g1
      cases ahead with
      | true =>
        refine (splice_over_t N aa ab m1 c1 m2 c2 ea eb w ha hm1 hmc1 hc1 hb hm2 hmc2 hc2 h1 h2).mono ?_
        rintro e w' ⟨v, us, h⟩; exact ⟨v, us, h⟩
      | false =>
        refine (splice_over_f N aa ab m1 c1 m2 c2 ea eb w ha hm1 hmc1 hc1 hb hm2 hmc2 hc2 h1 h2).mono ?_
        rintro e w' ⟨v, us, h⟩; exact ⟨v, us, h⟩
    · rw [if_pos h1, if_neg (fun h => h2 h.2)]
      exact splice_over_bad2 n aa ab m1 c1 m2 c2 ea eb _ ahead w ha hm1 (by omega) hb hm2 (by omega) h1 rfl h2
  · rw [if_neg h1, if_neg (fun h => h1 h.1)]
    exact splice_over_bad1 n aa ab m1 c1 m2 c2 ea _ ahead w ha hm1 (by omega) rfl h1

end Go.Proofs.Ytbgbcmfgncneiaa
