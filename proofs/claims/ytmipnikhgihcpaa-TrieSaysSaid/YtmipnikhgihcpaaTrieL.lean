/- Contract of fairref.Set. -/
import Derived.Test.YtmipnikhgihcpaaTrieK
import Derived.Test.YtmipnikhgihcpaaTrieJ
namespace Go.Proofs.Ytmipnikhgihcpaa
open Go.RowKit
set_option linter.unusedVariables false
set_option linter.unusedSimpArgs false

def setL (X : List (List Int)) : List (List Int) := sortL (setS [] X)
theorem setL_len (X : List (List Int)) : (setL X).length ≤ X.length := by
  unfold setL; rw [sortL_len]
  have := setS_len X []
  simpa using this
theorem setL_nil : setL [] = [] := by unfold setL sortL setS; simp
theorem setL_snoc {X : List (List Int)} {j : Nat} (hj : j < X.length) : setL (X.take (j + 1)) = sortL (insT (setS [] (X.take j)) (rx X j)) := by
  unfold setL; rw [take_succ_rx hj, setS_snoc]
theorem Lists.put {w : World} {us : List Value} {L : List (List Int)} {u : Value} {x : List Int} (h : Lists w us L) (hu : Sl w u x) (k : Nat) : Lists w (us.take k ++ u :: us.drop k) (L.take k ++ x :: L.drop k) :=
  (h.take k).append ((Lists.one hu).append (h.drop k))

set_option maxRecDepth 100000 in
set_option maxHeartbeats 4000000 in
theorem ref_set (lv : Value) (vs : List Value) (X : List (List Int)) (w : World) (hV : Vs w lv vs) (hL : Lists w vs X) (hX : X.length ≤ 1000) :
    Calls Try.prog 74 #[lv] w (LsPost (setL X) w) := by
  obtain ⟨la, ln, lc, rfl, hl1, hl2, hl3, hl4, hl5⟩ := hV
  have hll : X.length = ln := by rw [← hL.len]; exact hl1
  have HX := Lib.hid hll; have HL := Lib.hid hL; have HV := Lib.hid hl4; have HN := Lib.hid hl1
  have hln : ln ≤ 1000 := by omega
  clear hll hl1 hl2 hl4 hl5 hL hX
  go_enter Try.func74, Try.ntmps74
  go_wp2
  go_loopw [9, 3] (fun x t wr => ∃ (j : Nat) (us : List Value), x = .int .i64 (j : Int) ∧ j ≤ ln ∧ VOwn 22 w.heap.size wr t us ∧ Lists w us (setL (X.take j)) ∧ Below w.heap.size w wr) (fun x _ _ => ln - (intOf x).toNat)
  case atStart => exact ⟨0, [], rfl, by omega, VOwn.nil _ _ _, by rw [List.take_zero, setL_nil]; exact Lists.nil w, Below.refl _ _⟩
  case round =>
    obtain ⟨j, us, rfl, hj, hO, hU, hbel⟩ := hrel
    have hi0 : (0 : Int) ≤ (j : Int) := by omega
    by_cases hlt : j < ln
    · have hjv : j < vs.length := by rw [HN.out]; exact hlt
      have hjx : j < X.length := by rw [HX.out]; exact hlt
      obtain ⟨b1, o1, rfl, hc⟩ := HV.out.at hjv
      have cv := hc j hjv
      obtain ⟨a1, n1, c1, e1, s1, s2, s3, s4, s5⟩ := HL.out.sl j hjx
      rw [e1] at cv
      have cv' : wr.cell? ⟨b1, o1 + j, none⟩ = some (.slice a1 n1 c1) := by rw [hbel.cell (cell_lt cv)]; exact cv
      have hin : (j : Int) < (ln : Int) := by omega
      have HV2 := Lib.hid (show Vals w (some ⟨b1, o1, none⟩) vs from HV.out)
      obtain ⟨ta, tn, tc, rfl⟩ := hO.form
      obtain ⟨t1, t2, t3, t4, t5⟩ := hO.vs.get
      obtain ⟨L, hLL⟩ : ∃ L, setL (X.take j) = L := ⟨_, rfl⟩
      have hlen : L.length ≤ 1000 := by
        rw [← hLL]
        have := setL_len (X.take j)
        rw [List.length_take] at this; omega
      have hLL2 : sortL (setS [] (X.take j)) = L := hLL
      rw [hLL] at hU
      have hul := hU.len
      have HSL := Lib.hid (HL.out.sl j hjx); have HLL := Lib.hid hLL2; have HO := Lib.hid hO; have HU := Lib.hid hU; have HB := Lib.hid hbel; have HUL := Lib.hid hul; have HT1 := Lib.hid t1; have HT4 := Lib.hid t4; have HS1 := Lib.hid s1; have HS4 := Lib.hid s4; have HE1 := Lib.hid e1; have HSN := Lib.hid (setL_snoc hjx); have HJX := Lib.hid hjx
      have htn : tn ≤ 1000 := by omega
      have hbs := hbel.size
      clear hc cv e1 s1 s4 s5 hbel hU hO hLL hLL2 hul t1 t4 t5 HV hjv hjx hlen
      go_wp2
      go_loopw [6] (fun x wi => ∃ k : Nat, x = .int .i64 (k : Int) ∧ k ≤ tn ∧ (∀ q, q < k → cmpL (rx L q) (rx X j) < 0) ∧ wr = wi) (fun x _ => tn - (intOf x).toNat)
      case atStart => exact ⟨0, rfl, by omega, fun q hq => by omega, rfl⟩
      case round =>
        obtain ⟨k, rfl, hk, hq, rfl⟩ := hrel
        have HQ := Lib.hid hq
        clear hq
        have hk0 : (0 : Int) ≤ (k : Int) := by omega
        by_cases hkt : k < tn
        · have hku : k < us.length := by rw [HT1.out]; exact hkt
          have hkl : k < L.length := by rw [← HUL.out]; exact hku
          obtain ⟨b2, o2, rfl, hd⟩ := HT4.out.at hku
          have dv := hd k hku
          obtain ⟨a2, n2, c2, e2, r1, r2, r3, r4, r5⟩ := HU.out.sl k hkl
          rw [e2] at dv
          have hki : (k : Int) < (tn : Int) := by omega
          obtain ⟨r, hr⟩ : ∃ r, cmpL (rx L k) (rx X j) = r := ⟨_, rfl⟩
          have HC := slices_cmp a2 a1 n2 n1 c2 c1 (rx L k) (rx X j) wr (r4.below HB.out) (HS4.out.below HB.out) r1 HS1.out (by omega) (by omega)
          rw [hr] at HC
          have HC := Lib.hid HC; have HR := Lib.hid hr; have HR1 := Lib.hid r1; have HR4 := Lib.hid r4; have HKL := Lib.hid hkl; have HKU := Lib.hid hku
          have HT4' := Lib.hid (show Vals wr (some ⟨b2, o2, none⟩) us from HT4.out)
          clear hd e2 r1 r4 r5 hr hkl hku HT4
          by_cases hneg : r < 0
          · go_wp2_with (go_at_call 135; go_loud (refine (HC.out).mono ?_; rintro e w3 ⟨rfl, rfl⟩))
            refine ⟨⟨k + 1, by go_num, by omega, fun q hq => ?_, by first | trivial | rfl⟩, by simp [intOf]; omega⟩
            rcases Nat.lt_succ_iff_lt_or_eq.1 hq with h | rfl
            · exact HQ.out q h
            · rw [HR.out]; exact hneg
          · obtain ⟨t, ht⟩ : ∃ t, t = decide (rx L k = rx X j) := ⟨_, rfl⟩
            have HEQ := Lib.hid (slices_eqb a2 a1 n2 n1 c2 c1 (rx L k) (rx X j) t (by rw [ht, decide_eq_true_eq]) wr (HR4.out.below HB.out) (HS4.out.below HB.out) HR1.out HS1.out (by omega))
            have HTD := Lib.hid ht
            have hkne : ((k : Int) == (tn : Int)) = false := by simpa using (by omega : ¬ (k : Int) = (tn : Int))
            clear ht
            cases t with
            | true =>
              go_wp2_with (first | (go_at_call 135; go_loud (refine (HC.out).mono ?_; rintro e w3 ⟨rfl, rfl⟩)) | (go_at_call 22; go_loud (refine (HEQ.out).mono ?_; rintro e w3 ⟨rfl, nd, rfl⟩)))
              refine ⟨⟨j + 1, us, by go_num, by omega, HO.out.drewN nd, ?_, below_dn HB.out nd⟩, by simp [intOf]; omega⟩
              have hk2 : k < (sortL (setS [] (X.take j))).length := by rw [HLL.out]; exact HKL.out
              rw [HSN.out, put_there hk2 (by rw [HLL.out]; have := HTD.out; simpa using this.symm), HLL.out]
              exact HU.out
            | false =>
              go_wp2_with (first | (go_at_call 135; go_loud (refine (HC.out).mono ?_; rintro e w3 ⟨rfl, rfl⟩)) | (go_at_call 22; go_loud (refine (HEQ.out).mono ?_; rintro e w3 ⟨rfl, nd, rfl⟩)) | (go_at_call 136; go_loud (refine (ins_any w.heap.size _ us a1 n1 c1 wr.heap.size k _ ((HO.out.drewN nd).alloc _) (by rw [HT1.out]; exact hk) (by rw [HT1.out]; omega) (Blk.new (wr.drewN nd) _ _) ((HO.out.drewN nd).neOf (Nat.le_refl _)) (by rw [World.size_alloc]; exact Nat.le_succ_of_le hbs) HU.out.sls).mono ?_; rintro e w5 ⟨v5, rfl, ho5, hb5⟩)))
              refine ⟨⟨j + 1, us.take k ++ .slice a1 n1 c1 :: us.drop k, by go_num, by omega, ho5, ?_, ((below_dn HB.out nd).alloc hbs _).trans hb5⟩, by simp [intOf]; omega⟩
              have hk2 : k ≤ (sortL (setS [] (X.take j))).length := by rw [HLL.out]; exact Nat.le_of_lt HKL.out
              have := (put_new (S := setS [] (X.take j)) (w := rx X j) hk2 (by rw [HLL.out]; exact HQ.out) (fun _ => by rw [HLL.out, HR.out]; exact ⟨by omega, by have := HTD.out; simpa using this.symm⟩)).2
              rw [HSN.out, this, HLL.out]
              exact HU.out.put (by have := HSL.out; rw [HE1.out] at this; exact this) k
        · obtain rfl : k = tn := by omega
          have hkno : ¬ (k : Int) < (k : Int) := by omega
          go_wp2_with (go_at_call 136; go_loud (refine (ins_any w.heap.size _ us a1 n1 c1 wr.heap.size k _ (HO.out.alloc _) (by rw [HT1.out]; exact hk) (by rw [HT1.out]; omega) (Blk.new wr _ _) (HO.out.neOf (Nat.le_refl _)) (by rw [World.size_alloc]; exact Nat.le_succ_of_le hbs) HU.out.sls).mono ?_; rintro e w5 ⟨v5, rfl, ho5, hb5⟩))
          refine ⟨⟨j + 1, us.take k ++ .slice a1 n1 c1 :: us.drop k, by go_num, by omega, ho5, ?_, (HB.out.alloc hbs _).trans hb5⟩, by simp [intOf]; omega⟩
          have hlk : L.length = k := by rw [← HUL.out]; exact HT1.out
          have := (put_new (S := setS [] (X.take j)) (w := rx X j) (k := k) (by rw [HLL.out, hlk]; exact Nat.le_refl _) (by rw [HLL.out]; exact HQ.out) (fun h => by rw [HLL.out, hlk] at h; omega)).2
          rw [HSN.out, this, HLL.out]
          exact HU.out.put (by have := HSL.out; rw [HE1.out] at this; exact this) k
    · obtain rfl : j = ln := by omega
      rw [List.take_of_length_le (by rw [HX.out]; exact Nat.le_refl _)] at hU
      go_wp2
      go_ret
      exact ⟨_, us, rfl, hO, hU.below hbel, hbel⟩

end Go.Proofs.Ytmipnikhgihcpaa
