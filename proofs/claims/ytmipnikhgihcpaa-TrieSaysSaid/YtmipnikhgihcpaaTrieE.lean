/- Contract of fairref.Begun. -/
import Derived.Test.YtmipnikhgihcpaaTrieW
import Derived.Test.YtmipnikhgihcpaaCut
namespace Go.Proofs.Ytmipnikhgihcpaa
open Go.RowKit
set_option linter.unusedVariables false
set_option linter.unusedSimpArgs false

def LsPost (X : List (List Int)) (w : World) (e : Ending) (w' : World) : Prop := ∃ v us, e = .returned v ∧ VOwn 22 w.heap.size w' v us ∧ Lists w' us X ∧ Below w.heap.size w w'
def begun (p : List Int) (X : List (List Int)) : List (List Int) := X.filter fun s => decide (p <+: s)
theorem begun_yes {p : List Int} {X : List (List Int)} {k : Nat} (hk : k < X.length) (h : p <+: rx X k) : begun p (X.take (k + 1)) = begun p (X.take k) ++ [rx X k] := by
  unfold begun; rw [take_succ_rx hk, List.filter_append]; simp [h]
theorem begun_no {p : List Int} {X : List (List Int)} {k : Nat} (hk : k < X.length) (h : ¬ p <+: rx X k) : begun p (X.take (k + 1)) = begun p (X.take k) := by
  unfold begun; rw [take_succ_rx hk, List.filter_append]; simp [h]
theorem begun_len (p : List Int) (X : List (List Int)) (k : Nat) : (begun p (X.take k)).length ≤ X.length := Nat.le_trans (List.length_filter_le _ _) (by rw [List.length_take]; omega)

theorem below_dn {B : Nat} {w w' : World} (h : Below B w w') (n : Nat) : Below B w (w'.drewN n) := ⟨h.os, h.tape, h.output, h.size, h.block⟩

set_option maxRecDepth 100000 in
set_option maxHeartbeats 2000000 in
theorem ref_begun (lv : Value) (vs : List Value) (X : List (List Int)) (a : Option Addr) (m c : Nat) (p : List Int) (w : World) (hV : Vs w lv vs) (hL : Lists w vs X) (hX : X.length ≤ 1000000) (hp : Ints w a p) (hm : p.length = m) (hm2 : m ≤ 9223372036854775807) :
    Calls Try.prog 75 #[lv, .slice a m c] w (LsPost (begun p X) w) := by
  obtain ⟨la, ln, lc, rfl, hl1, hl2, hl3, hl4, hl5⟩ := hV
  have hll : X.length = ln := by rw [← hL.len]; exact hl1
  have HX := Lib.hid hll; have HL := Lib.hid hL; have HV := Lib.hid hl4; have HN := Lib.hid hl1; have HP := Lib.hid hp; have HM := Lib.hid hm
  have hln : ln ≤ 1000000 := by omega
  clear hll hl1 hl2 hl4 hl5 hL hp hm hX
  go_enter Try.func75, Try.ntmps75
  go_wp2
  go_loopw [10, 5] (fun x t wr => ∃ (j : Nat) (us : List Value), x = .int .i64 (j : Int) ∧ j ≤ ln ∧ VOwn 22 w.heap.size wr t us ∧ Lists w us (begun p (X.take j)) ∧ Below w.heap.size w wr) (fun x _ _ => ln - (intOf x).toNat)
  case atStart => exact ⟨0, [], rfl, by omega, VOwn.nil _ _ _, by unfold begun; simpa using Lists.nil w, Below.refl _ _⟩
  case round =>
    obtain ⟨j, us, rfl, hj, hO, hU, hbel⟩ := hrel
    have hi0 : (0 : Int) ≤ (j : Int) := by omega
    by_cases hlt : j < ln
    · have hjv : j < vs.length := by rw [HN.out]; exact hlt
      have hjx : j < X.length := by rw [HX.out]; exact hlt
      obtain ⟨b1, o1, rfl, hc⟩ := HV.out.at hjv
      have cv := hc j hjv
      obtain ⟨a1, n1, c1, e1, s1, s2, s3, s4, s5⟩ := HL.out.sl j hjx
      rw [e1] at cv
      have cv' : wr.cell? ⟨b1, o1 + j, none⟩ = some (.slice a1 n1 c1) := by rw [hbel.cell (cell_lt cv)]; exact cv
      have hin : (j : Int) < (ln : Int) := by omega
      have HV2 := Lib.hid (show Vals w (some ⟨b1, o1, none⟩) vs from HV.out)
      have hbs := hbel.size
      have hul : us.length ≤ 1000000 := by rw [hU.len]; exact Nat.le_trans (begun_len p X j) (by rw [HX.out]; exact hln)
      have HB := Lib.hid hbel; have HU := Lib.hid hU; have HS := Lib.hid (HL.out.sl j hjx)
      have HE1 := Lib.hid e1
      have HYES := Lib.hid (fun h => begun_yes (p := p) hjx h); have HNO := Lib.hid (fun h => begun_no (p := p) hjx h)
      by_cases hge : m ≤ n1
      · have hg : (m : Int) ≤ (n1 : Int) := by omega
        have hcut := cut_run_to a1 n1 c1 m (by omega)
        obtain ⟨t, ht⟩ : ∃ t, t = decide (p <+: rx X j) := ⟨_, rfl⟩
        have HT := Lib.hid ht
        have HEQ := Lib.hid (slices_eqb a1 a m m c1 c ((rx X j).take m) p t (by
          rw [ht, decide_eq_true_eq, List.prefix_iff_eq_take, HM.out]; exact ⟨fun h => h.symm, fun h => h.symm⟩) wr ((s4.below hbel).take m) (HP.out.below hbel) (by rw [List.length_take, s1]; omega) HM.out (by omega))
        clear hc cv e1 s1 s2 s3 s4 s5 hbel hU HV ht
        have hsl1 : Sls [.slice a1 n1 c1] := fun i hi => by
          obtain rfl : i = 0 := by simpa using hi
          exact ⟨_, _, _, rfl⟩
        have HSL := Lib.hid hsl1
        clear hsl1
        cases t with
        | true =>
          have hy := HYES.out (by have := HT.out; simpa using this.symm)
          have HY := Lib.hid hy
          clear hy
          go_wp2_with (first | (go_at_call 22; go_loud (refine (HEQ.out).mono ?_; rintro e w3 ⟨rfl, nd, rfl⟩)) | (at_builtin; go_loud (refine vapp rfl _ _ rfl w.heap.size _ us [.slice a1 n1 c1] ⟨wr.heap.size, 0, none⟩ 1 1 rfl rfl ((hO.drewN nd).alloc _) (vals_lit (wr.drewN nd) [.slice a1 n1 c1] _) HSL.out rfl (by simp; omega) (Nat.le_trans hbs (by rw [World.size_alloc]; exact Nat.le_succ _)) ?_; intro v4 w4 o4 hg4)))
          have hb4 : Below w.heap.size w w4 := ((below_dn HB.out nd).alloc hbs _).grown hg4 (Nat.le_trans hbs (by rw [World.size_alloc]; exact Nat.le_succ _)) hO.row
          refine ⟨⟨j + 1, us ++ [.slice a1 n1 c1], by go_num, by omega, o4, ?_, hb4⟩, by simp [intOf]; omega⟩
          rw [HY.out]
          exact HU.out.append (Lists.one (by have := HS.out; rw [HE1.out] at this; exact this))
        | false =>
          have hn := HNO.out (fun h => by have := HT.out; simp [h] at this)
          have HNN := Lib.hid hn
          clear hn
          go_wp2_with (go_at_call 22; go_loud (refine (HEQ.out).mono ?_; rintro e w3 ⟨rfl, nd, rfl⟩))
          refine ⟨⟨j + 1, us, by go_num, by omega, hO.drewN nd, by rw [HNN.out]; exact HU.out, below_dn HB.out nd⟩, by simp [intOf]; omega⟩
      · have hg : ¬ (m : Int) ≤ (n1 : Int) := by omega
        have hnp : ¬ p <+: rx X j := fun h => by have := h.length_le; rw [HM.out, s1] at this; omega
        have HNP := Lib.hid (HNO.out hnp)
        clear hc cv e1 s1 s2 s3 s4 s5 hbel hU HV hnp
        go_wp2
        refine ⟨⟨j + 1, us, by go_num, by omega, hO, by rw [HNP.out]; exact HU.out, HB.out⟩, by simp [intOf]; omega⟩
    · obtain rfl : j = ln := by omega
      rw [List.take_of_length_le (by rw [HX.out]; exact Nat.le_refl _)] at hU
      go_wp2
      go_ret
      exact ⟨_, us, rfl, hO, hU.below hbel, hbel⟩

end Go.Proofs.Ytmipnikhgihcpaa
