/- Contract of fairref.Far. -/
import Derived.Test.YtmipnikhgihcpaaNear1
import Derived.Test.YtmipnikhgihcpaaMapK
import Derived.StillTailTactics
namespace Go.Proofs.Ytmipnikhgihcpaa
open Go.RowKit
set_option linter.unusedVariables false
set_option linter.unusedSimpArgs false

/-- the table holds what stands ahead of (i, j) -/
def FarM (a b : List Int) (i j : Nat) (f : Int → Int → Int) : Prop := ∀ p q : Nat, (p < i ∧ q ≤ b.length) ∨ (p = i ∧ q < j) → f (p : Int) (q : Int) = (far a b p q : Int)
theorem FarM.next {a b : List Int} {i j : Nat} {f : Int → Int → Int} (h : FarM a b i j f) {v : Int} (hv : v = (far a b i j : Int)) : FarM a b i (j + 1) (fun p q => if p = (i : Int) ∧ q = (j : Int) then v else f p q) := by
  intro p q hpq
  dsimp only
  by_cases e : (p : Int) = (i : Int) ∧ (q : Int) = (j : Int)
  · rw [if_pos e, hv, show p = i by omega, show q = j by omega]
  · rw [if_neg e]; exact h p q (by omega)
theorem FarM.line {a b : List Int} {i j : Nat} {f : Int → Int → Int} (h : FarM a b i j f) (hj : b.length < j) : FarM a b (i + 1) 0 f := fun p q hpq => h p q (by omega)
theorem wrap_is {x : Int} (h : InR x) : IntKind.i64.wrap x = x := by
  obtain ⟨h1, h2⟩ := h
  rw [IntKind.wrap_i64]; omega
theorem inR_nat {n : Nat} (h : n ≤ 1000000) : InR (n : Int) := ⟨by omega, by omega⟩

set_option maxRecDepth 100000 in
set_option maxHeartbeats 2000000 in
theorem ref_far (a1 a2 : Option Addr) (m n c1 c2 : Nat) (a b : List Int) (w : World) (ha : Ints w a1 a) (hb : Ints w a2 b) (hm : a.length = m) (hn : b.length = n) (h1 : m ≤ 200) (h2 : n ≤ 200) :
    Calls Try.prog 71 #[.slice a1 m c1, .slice a2 n c2] w (fun e w' => e = .returned (.int .i64 (dst a b : Int)) ∧ Below w.heap.size w w') := by
  have HM := Lib.hid hm; have HN := Lib.hid hn
  have HD := Lib.hid (dst_far a b)
  rw [hm, hn] at HD
  have hmm := @run_makeMap Try.prog
  clear hm hn
  go_enter Try.func71, Try.ntmps71
  go_wp2
  clear hmm
  go_loopw [12] (fun x wr => ∃ (i N : Nat) (f : Int → Int → Int), x = .int .i64 (i : Int) ∧ i ≤ m + 1 ∧ N ≤ i * 1000 ∧ MapK wr w.heap.size N f ∧ FarM a b i 0 f ∧ Below w.heap.size w wr) (fun x _ => m + 1 - (intOf x).toNat)
  case atStart => exact ⟨0, 0, _, rfl, by omega, by omega, MapK.made w, fun p q h => by omega, below1 _ _⟩
  case round =>
    obtain ⟨i, N, f, rfl, hi, hN, hM, hF, hbel⟩ := hrel
    by_cases hlt : i < m + 1
    · have hi0 : (0 : Int) ≤ (i : Int) := by omega
      have him : (i : Int) < (m : Int) + 1 := by omega
      have HX := Lib.hid hM; have HF := Lib.hid hF; have HB := Lib.hid hbel
      clear hM hF hbel
      go_wp2
      go_loopw [18] (fun x wr => ∃ (j N : Nat) (f : Int → Int → Int), x = .int .i64 (j : Int) ∧ j ≤ n + 1 ∧ N ≤ i * 1000 + j ∧ MapK wr w.heap.size N f ∧ FarM a b i j f ∧ Below w.heap.size w wr) (fun x _ => n + 1 - (intOf x).toNat)
      case atStart => exact ⟨0, N, f, rfl, by omega, by omega, HX.out, HF.out, HB.out⟩
      case round =>
        clear HX HF HB
        obtain ⟨j, N2, f2, rfl, hj, hN2, hM, hF, hbel⟩ := hrel
        by_cases hjn : j < n + 1
        · have hj0 : (0 : Int) ≤ (j : Int) := by omega
          have hjm : (j : Int) < (n : Int) + 1 := by omega
          have HF := Lib.hid hF
          have HB := Lib.hid hbel
          have FIN : ∀ (v : Int) (w2 : World), v = (far a b i j : Int) → MapK w2 w.heap.size (N2 + 1) (fun p q => if p = (i : Int) ∧ q = (j : Int) then v else f2 p q) → Below w.heap.size w w2 → (∃ (j' N' : Nat) (f : Int → Int → Int), Value.int .i64 ((j : Int) + 1) = .int .i64 (j' : Int) ∧ j' ≤ n + 1 ∧ N' ≤ i * 1000 + j' ∧ MapK w2 w.heap.size N' f ∧ FarM a b i j' f ∧ Below w.heap.size w w2) ∧ n + 1 - (intOf (.int .i64 ((j : Int) + 1))).toNat < n + 1 - (intOf (.int .i64 (j : Int))).toNat :=
            fun v w2 hv hm hb => ⟨⟨j + 1, N2 + 1, _, rfl, by omega, by omega, hm, HF.out.next hv, hb⟩, by simp [intOf]; omega⟩
          have HFIN := Lib.hid FIN
          clear FIN
          by_cases i0 : i = 0
          · have e0 : ((i : Int) == 0) = true := by simpa using i0
            have HV := Lib.hid (show (j : Int) = (far a b i j : Int) by rw [i0, far_zero_left a b j (by rw [HN.out]; omega)])
            obtain ⟨w2, hrun, hM2, hg⟩ := hM.update (by omega) (inR_nat (n := i) (by omega)) (inR_nat (n := j) (by omega)) (j : Int)
            have HR := Lib.hid (HFIN.out _ w2 HV.out hM2 (hbel.grown hg hbel.size (fun k hk => by simp at hk; omega)))
            clear hF hbel hM hM2 hg i0
            go_wp2
            exact HR.out
          have e0 : ((i : Int) == 0) = false := by simp; omega
          by_cases j0 : j = 0
          · have e1 : ((j : Int) == 0) = true := by simpa using j0
            have HV := Lib.hid (show (i : Int) = (far a b i j : Int) by rw [j0, far_zero_right a b i (by rw [HM.out]; omega)])
            obtain ⟨w2, hrun, hM2, hg⟩ := hM.update (by omega) (inR_nat (n := i) (by omega)) (inR_nat (n := j) (by omega)) (i : Int)
            have HR := Lib.hid (HFIN.out _ w2 HV.out hM2 (hbel.grown hg hbel.size (fun k hk => by simp at hk; omega)))
            clear hF hbel hM hM2 hg j0
            go_wp2
            exact HR.out
          have e1 : ((j : Int) == 0) = false := by simp; omega
          have hia : i - 1 < a.length := by rw [HM.out]; omega
          have hjb : j - 1 < b.length := by rw [HN.out]; omega
          obtain ⟨b1, o1, rfl, hc1⟩ := ha.at hia
          obtain ⟨b2, o2, rfl, hc2⟩ := hb.at hjb
          have ca := hc1 (i - 1) hia
          have cb := hc2 (j - 1) hjb
          have ca' : wr.cell? ⟨b1, o1 + (i - 1), none⟩ = some (.int .i64 (ix a (i - 1))) := by rw [hbel.cell (cell_lt ca)]; exact ca
          have cb' : wr.cell? ⟨b2, o2 + (j - 1), none⟩ = some (.int .i64 (ix b (j - 1))) := by rw [hbel.cell (cell_lt cb)]; exact cb
          have HIA := Lib.hid hia; have HJB := Lib.hid hjb
          have HI0 := Lib.hid i0; have HJ0 := Lib.hid j0
          have s1 : (0 : Int) ≤ (i : Int) - 1 := by omega
          have s2 : (i : Int) - 1 < (m : Int) := by omega
          have s3 : (0 : Int) ≤ (j : Int) - 1 := by omega
          have s4 : (j : Int) - 1 < (n : Int) := by omega
          have s5 : ((i : Int) - 1).toNat = i - 1 := by omega
          have s6 : ((j : Int) - 1).toNat = j - 1 := by omega
          have HMM := Lib.hid hM; have HBE := Lib.hid hbel
          clear hc1 hc2 ca cb ha hb hia hjb i0 j0 hM hbel hF
          go_upto_region 13 with fail
          go_cut [62] (fun v wx => ∃ t : Bool, v = .bool t ∧ t = (ix a (i - 1) == ix b (j - 1)) ∧ ∃ q, wx = wr.drewN q)
          case first =>
            go_quiet (fail)
            all_goals
              go_wp2
              go_meet
              exact ⟨_, rfl, rfl, _, rfl⟩
          obtain ⟨t, rfl, ht, q, hq⟩ := hcut
          have hM3 : MapK wc w.heap.size N2 f2 := by rw [hq]; exact HMM.out.drewN q
          have hB3 : Below w.heap.size w wc := by rw [hq]; exact below_drewN HBE.out q
          clear hq ca' cb'
          generalize wc = w3 at *
          by_cases he : ix a (i - 1) = ix b (j - 1)
          · obtain rfl : t = true := by rw [ht]; simpa using he
            clear ht
            have hlk := hM3.lookup (x := (i : Int) - 1) (y := (j : Int) - 1) ⟨by omega, by omega⟩ ⟨by omega, by omega⟩
            have HV := Lib.hid (show f2 ((i : Int) - 1) ((j : Int) - 1) = (far a b i j : Int) by
              have g := HF.out (i - 1) (j - 1) (.inl ⟨by have := HI0.out; omega, by have := HN.out; omega⟩)
              rw [show ((i - 1 : Nat) : Int) = (i : Int) - 1 by have := HI0.out; omega, show ((j - 1 : Nat) : Int) = (j : Int) - 1 by have := HJ0.out; omega] at g
              have f := far_same HIA.out HJB.out he
              rw [show i - 1 + 1 = i by have := HI0.out; omega, show j - 1 + 1 = j by have := HJ0.out; omega] at f
              rw [g, f])
            generalize f2 ((i : Int) - 1) ((j : Int) - 1) = v at *
            obtain ⟨w2, hrun, hM2, hg⟩ := hM3.update (by omega) (inR_nat (n := i) (by omega)) (inR_nat (n := j) (by omega)) v
            have HR := Lib.hid (HFIN.out _ w2 HV.out hM2 (hB3.grown hg hB3.size (fun k hk => by simp at hk; omega)))
            clear hM3 hB3 hM2 hg he
            go_wp2
            exact HR.out
          · obtain rfl : t = false := by rw [ht]; simpa using he
            clear ht
            have l1 := hM3.lookup (x := (i : Int) - 1) (y := (j : Int)) ⟨by omega, by omega⟩ ⟨by omega, by omega⟩
            have l2 := hM3.lookup (x := (i : Int)) (y := (j : Int) - 1) ⟨by omega, by omega⟩ ⟨by omega, by omega⟩
            have l3 := hM3.lookup (x := (i : Int) - 1) (y := (j : Int) - 1) ⟨by omega, by omega⟩ ⟨by omega, by omega⟩
            have g0 : ((i - 1 : Nat) : Int) = (i : Int) - 1 := by have := HI0.out; omega
            have g0' : ((j - 1 : Nat) : Int) = (j : Int) - 1 := by have := HJ0.out; omega
            have g1 := HF.out (i - 1) j (.inl ⟨by have := HI0.out; omega, by have := HN.out; omega⟩)
            have g2 := HF.out i (j - 1) (.inr ⟨rfl, by have := HJ0.out; omega⟩)
            have g3 := HF.out (i - 1) (j - 1) (.inl ⟨by have := HI0.out; omega, by have := HN.out; omega⟩)
            rw [g0] at g1 g3; rw [g0'] at g2 g3
            rw [g1] at l1; rw [g2] at l2; rw [g3] at l3
            have f := far_diff HIA.out HJB.out he
            rw [show i - 1 + 1 = i by have := HI0.out; omega, show j - 1 + 1 = j by have := HJ0.out; omega] at f
            have t1 := far_top a b (i - 1) j; have t2 := far_top a b i (j - 1); have t3 := far_top a b (i - 1) (j - 1)
            generalize far a b (i - 1) j = x1 at *
            generalize far a b i (j - 1) = x2 at *
            generalize far a b (i - 1) (j - 1) = x3 at *
            have b1 : (x1 : Int) ≤ 401 := by omega
            have b2 : (x2 : Int) ≤ 401 := by omega
            have b3 : (x3 : Int) ≤ 401 := by omega
            obtain ⟨v, hv⟩ : ∃ v : Int, v = (far a b i j : Int) := ⟨_, rfl⟩
            have HV := Lib.hid hv
            rw [f] at hv
            have HV2 := Lib.hid hv
            have HB3 := Lib.hid hB3; have L1 := Lib.hid g1; have L2 := Lib.hid g2; have L3 := Lib.hid g3
            clear g0 g0' g1 g2 g3 f t1 t2 t3 hv he l1 l2 l3 hB3
            go_upto_region 8 with fail
            have hM4 : MapK w3.drew w.heap.size N2 f2 := hM3.drew
            have HB4 := Lib.hid (show Below w.heap.size w w3.drew from HB3.out.drew)
            have l1 := hM4.lookup (x := (i : Int) - 1) (y := (j : Int)) ⟨by omega, by omega⟩ ⟨by omega, by omega⟩
            have l2 := hM4.lookup (x := (i : Int)) (y := (j : Int) - 1) ⟨by omega, by omega⟩ ⟨by omega, by omega⟩
            have l3 := hM4.lookup (x := (i : Int) - 1) (y := (j : Int) - 1) ⟨by omega, by omega⟩ ⟨by omega, by omega⟩
            rw [L1.out] at l1; rw [L2.out] at l2; rw [L3.out] at l3
            have iw1 : IntKind.i64.wrap ((i : Int) - 1) = (i : Int) - 1 := wrap_is ⟨by omega, by omega⟩
            have iw2 : IntKind.i64.wrap ((j : Int) - 1) = (j : Int) - 1 := wrap_is ⟨by omega, by omega⟩
            clear hM3
            go_still_tail 25, (by kernel_rfl)
            change wpList _ _ _ _ _ w3.drew
            go_wp2_with (at_mapUpdate; refine upd_mapk rfl _ _ _ rfl hM4 (by omega) ⟨by omega, by omega⟩ ⟨by omega, by omega⟩ rfl rfl rfl ?_; intro w9 hM9 hg9)
            refine HFIN.out _ w9 ?_ hM9 (HB4.out.grown hg9 HB4.out.size (fun k hk => by simp at hk; omega))
            rw [HV.out.symm, HV2.out]
            have hz : ∀ z : Int, z = ((min (min x1 x2) x3 : Nat) : Int) → IntKind.i64.wrap (1 + z) = ((1 + min (min x1 x2) x3 : Nat) : Int) := by
              rintro z rfl
              rw [wrap_is ⟨by omega, by omega⟩]; omega
            exact hz _ (by split <;> split at * <;> first | omega | (split <;> omega))
        · obtain rfl : j = n + 1 := by omega
          have HF := Lib.hid (hF.line (by rw [HN.out]; omega))
          clear hF
          go_wp2
          refine ⟨⟨i + 1, N2, f2, rfl, by omega, by omega, hM, HF.out, hbel⟩, by simp [intOf]; omega⟩
    · obtain rfl : i = m + 1 := by omega
      have hlk := hM.lookup (x := (m : Int)) (y := (n : Int)) ⟨by omega, by omega⟩ ⟨by omega, by omega⟩
      rw [hF m n (.inl ⟨by omega, by rw [HN.out]; omega⟩), HD.out] at hlk
      clear hF hM
      go_wp2
      go_ret
      exact ⟨rfl, hbel⟩

end Go.Proofs.Ytmipnikhgihcpaa
