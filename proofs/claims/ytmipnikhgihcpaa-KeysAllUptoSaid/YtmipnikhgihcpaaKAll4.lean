/- Contract of fairref.WriteCmd. -/
import Derived.Test.YtmipnikhgihcpaaKAll3
import Derived.Test.YtmipnikhgihcpaaRep2
namespace Go.Proofs.Ytmipnikhgihcpaa
open Go.RowKit
set_option linter.unusedVariables false
set_option linter.unusedSimpArgs false

theorem Own.apart {e : TypeId} {base : Nat} {w w' : World} {v : Value} {xs : List Int} {row : Option Nat} (h : Own e base w v xs) (hg : w.grownBy w' row) (hr : ∀ k, v.ownBlock = some k → row ≠ some k) : Own e base w' v xs := by
  refine ⟨h.1, ?_⟩
  rcases h.2 with hn | ⟨g, cap, cur, rfl, hb', hgg, rest⟩
  · exact .inl hn
  · exact .inr ⟨g, cap, cur, rfl, hb', by rw [hg.block g (Array.getElem?_eq_some_iff.1 hgg).1 (fun e => hr g rfl e.symm)]; exact hgg, rest⟩
theorem Own.noneZ {e : TypeId} {base : Nat} {w : World} {a : Option Addr} {n c : Nat} {xs : List Int} (h : Own e base w (.slice a n c) xs) : a = none → n = 0 := by
  intro ha
  rcases h.2 with ⟨h1, h2⟩ | ⟨g, cap, cur, h1, _⟩
  · simp only [Value.slice.injEq] at h1; exact h1.2.1
  · simp only [Value.slice.injEq] at h1; rw [ha] at h1; simp at h1
def rdL (n : Int) : List Int := if 0 < n then (if 0 < n / 10 then (if 0 < n / 10 / 10 then [48 + n / 10 / 10 % 10] else []) ++ [48 + n / 10 % 10] else []) ++ [48 + n % 10] else []
theorem rdL_step {n : Int} (h0 : 0 < n) (h1 : n ≤ 999) : rdL n = rdL (n / 10) ++ [48 + n % 10] := by
  unfold rdL
  rw [if_pos h0]
  by_cases a : 0 < n / 10
  · rw [if_pos a, if_pos a]
    by_cases b : 0 < n / 10 / 10
    · rw [if_pos b, if_pos b, if_neg (show ¬ 0 < n / 10 / 10 / 10 by omega)]; rfl
    · rw [if_neg b, if_neg b]
  · rw [if_neg a, if_neg a]
theorem waits_in (a b c d g : Int) : (inB d ⟨#[102, 70, 116, 84, 114]⟩ || (c != 0 && inB d ⟨#[105, 97]⟩)) = waitsB ⟨a, b, c, d, g⟩ := by
  have h1 : inB d ⟨#[102, 70, 116, 84, 114]⟩ = (fiB d || decide (d = 114)) := by
    rw [Bool.eq_iff_iff, inB_mem]; simp [fiB, or_assoc]
  rw [h1, in_ia]
  unfold waitsB
  simp only []
  rw [bne, beqD]
  cases fiB d <;> cases iaB d <;> simp

set_option maxRecDepth 100000 in
set_option maxHeartbeats 8000000 in
theorem ref_writeCmd (a b c d g : Int) (w : World) :
    Calls Try.prog 52 #[.agg #[.int .i64 a, .int .i64 b, .int .i64 c, .int .i64 d, .int .i64 g]] w (WrPost ⟨a, b, c, d, g⟩ w) := by
  have hA := Blk.new w #[.int .i64 a, .int .i64 b, .int .i64 c, .int .i64 d, .int .i64 g] 80
  have hacc := below1 w (.cells #[.int .i64 a, .int .i64 b, .int .i64 c, .int .i64 d, .int .i64 g] 80)
  go_enter Try.func52, Try.ntmps52
  go_upto_region 1 with fail
  generalize w.alloc (.cells #[.int .i64 a, .int .i64 b, .int .i64 c, .int .i64 d, .int .i64 g] 80) = w1 at *
  by_cases hin : 0 ≤ a ∧ a ≤ 999
  · obtain ⟨ha0, ha1⟩ := hin
    have HE := Lib.hid (show wrL ⟨a, b, c, d, g⟩ = (if wrOk ⟨a, b, c, d, g⟩ = true then writeL ⟨a, b, c, d, g⟩ else []) ∧ wrE ⟨a, b, c, d, g⟩ = (if wrOk ⟨a, b, c, d, g⟩ = true then 0 else 4) by unfold wrL wrE; constructor <;> rw [if_neg (by simp; omega)])
    obtain ⟨c0, c1, c2, c3, c4⟩ := hA.five
    go_upto_if 20 with fail
    go_cut [4] (fun v wx => Wrt w wx a b c d g v (preL b))
    case first =>
      have hz := hA.lt
      by_cases hb : b = 0
      · subst hb
        go_wp2
        go_meet
        exact ⟨hA, Own.nil _ _ _, hacc⟩
      · have hb' : (b != 0) = true := by simpa using hb
        have HB := Lib.hid (show preL b = [34, b] by unfold preL; rw [if_pos hb])
        clear hb
        go_wp2
        go_meet
        rw [HB.out]
        exact ⟨hA.alloc _, own_of_blk (xs := [34, b]) (Blk.new _ _ _) hz (by simp), hacc.alloc hacc.size _⟩
    case rest =>
      have H6 := hcut
      clear hA hacc c0 c1 c2 c3 c4
      obtain ⟨V, hV⟩ : ∃ V, V = wc := ⟨_, rfl⟩
      subst hV
      obtain ⟨c0, c1, c2, c3, c4⟩ := H6.blk.five
      go_upto_region 8 with fail
      have D1 := Lib.hid (show rdL a = digL a from digP_eq ha0 ha1)
      clear c0 c1 c2 c3 c4
      go_loopw [5, 6] (fun dv nv wr => ∃ (x : Int) (D : List Int), nv = .int .i64 x ∧ 0 ≤ x ∧ x ≤ 999 ∧ rdL x ++ D = digL a ∧ Wrt w wr a b c d g u4 (preL b) ∧ Own 3 (w.heap.size + 1) wr dv D) (fun _ nv _ => (intOf nv).toNat)
      case atStart => exact ⟨a, [], rfl, ha0, ha1, by rw [List.append_nil]; exact D1.out, H6, Own.nil _ _ _⟩
      case round =>
        obtain ⟨x, D, rfl, hx0, hx1, hD, HW, hown⟩ := hrel
        have hdl : D.length ≤ 3 := by
          have h1 := len_dig a
          rw [← hD, List.length_append] at h1
          omega
        by_cases hx : 0 < x
        · have HD := Lib.hid (show rdL (x / 10) ++ ([48 + x % 10] ++ D) = digL a by rw [← List.append_assoc, ← rdL_step hx hx1]; exact hD)
          clear hD
          obtain ⟨va, vn, vc, rfl⟩ := hown.form
          have hz := HW.hz
          have ho := own_of_blk (base := w.heap.size + 1) (xs := [48 + x % 10]) (Blk.new wr #[.int .i64 (48 + x % 10)] 3) hz (by simp)
          have HF := Lib.hid (show _ ∧ _ ∧ _ from ⟨(hown.get.2.1).below (below1 wr (.cells #[.int .i64 (48 + x % 10)] 3)), hown.get, hown.noneZ⟩)
          clear hown
          go_wp2_with (at_builtin; refine appV rfl _ _ rfl (w.heap.size + 1) _ [48 + x % 10] D va vn vc rfl rfl ho HF.out.1 HF.out.2.1.1 HF.out.2.2 (by have := HF.out.2.1.1; simp; omega) (size_alloc_le hz _) ?_; intro v3 w3 hown3 hgrow3)
          go_roundw
          case rel =>
            have hg : (wr.alloc (.cells #[.int .i64 (48 + x % 10)] 3)).grownBy w3 (some wr.heap.size) := hgrow3
            exact ⟨x / 10, _, rfl, by omega, by omega, HD.out, ⟨(HW.blk.alloc _).grown hg (by have := HW.blk.lt; simp; omega), (HW.own.alloc _).apart hg (fun k hk e => by simp at e; have := (World.ownsRow.lt HW.own k hk).2; omega), (HW.bel.alloc HW.bel.size _).grown hg (size_alloc_le HW.bel.size _) (fun k hk => by simp at hk; omega)⟩, hown3⟩
          case measure => simp [intOf]; omega
        · have hx2 : x = 0 := by omega
          subst hx2
          have HW2 := HW
          have HDD := Lib.hid (show D = digL a by rw [← hD]; rfl)
          clear hD
          clear HW
          obtain ⟨va, vn, vc, rfl⟩ := hown.form
          have hz := HW2.hz
          have HF := Lib.hid (show _ ∧ _ ∧ _ from ⟨hown.get.2.1, hown.get.1, hown.noneZ⟩)
          clear hown
          go_upto_region 12 with (at_builtin; refine appV rfl _ _ rfl (w.heap.size + 1) u4 (preL b) D va vn vc rfl rfl HW2.own HF.out.1 HF.out.2.1 HF.out.2.2 (by have := HF.out.2.1; have := len_pre b; omega) hz ?_; intro v2 w2 hown2 hgrow2)
          have HW : Wrt w w2 a b c d g v2 (preL b ++ digL a) := ⟨HW2.blk.grown hgrow2 (HW2.own.neBlk HW2.blk (by decide)), by rw [← HDD.out]; exact hown2, HW2.bel.grown hgrow2 HW2.bel.size (HW2.own.mono (by omega)).row⟩
          have hll : (preL b ++ digL a).length ≤ 5 := by have := len_pre b; have := len_dig a; simp; omega
          clear HW2 hown2 hgrow2 HF HDD D1 H6 hcut hz
          obtain ⟨c0, c1, c2, c3, c4⟩ := HW.blk.five
          go_upto_if 41 with fail
          go_cut [4] (fun v wx => Wrt w wx a b c d g v (preL b ++ digL a ++ opL c))
          case first =>
            have hown := HW.own
            have hz := HW.hz
            by_cases hc : c = 0
            · have HC := Lib.hid (show opL c = [] by unfold opL; rw [hc]; rfl)
              subst hc
              go_wp2
              go_meet
              rw [HC.out, List.append_nil]
              exact HW
            · have HC := Lib.hid (show opL c = [c] by unfold opL; rw [if_pos hc])
              have hc' : (c != 0) = true := by simpa using hc
              clear hc
              go_wp2_with (at_builtin; refine appN rfl _ _ rfl (w.heap.size + 1) _ _ [c] _ 1 1 rfl rfl (hown.alloc _) (ints1 _ _) rfl (by omega) (size_alloc_le hz _) ?_; intro v3 w3 hown3 hgrow3 _)
              go_meet
              rw [HC.out]
              exact HW.app hown3 hgrow3
          case rest =>
            have HV := hcut
            obtain ⟨V2, hV⟩ : ∃ V, V = wc := ⟨_, rfl⟩
            subst hV
            clear c0 c1 c2 c3 c4 HW
            obtain ⟨c0, c1, c2, c3, c4⟩ := HV.blk.five
            have hown := HV.own
            have hz := HV.hz
            have hlen : (preL b ++ digL a ++ opL c).length ≤ 6 := by have := len_op c; simp at hll ⊢; omega
            go_upto_region 15 with (at_builtin; refine appN rfl _ _ rfl (w.heap.size + 1) _ _ [d] _ 1 1 rfl rfl (hown.alloc _) (ints1 _ _) rfl (by omega) (size_alloc_le hz _) ?_; intro v3 w3 hown3 hgrow3 _)
            have HX := HV.app hown3 hgrow3
            clear c0 c1 c2 c3 c4 HV
            obtain ⟨z1, hz1⟩ : ∃ z, inB d ⟨#[102, 70, 116, 84, 114]⟩ = z := ⟨_, rfl⟩
            obtain ⟨z2, hz2⟩ : ∃ z, inB d ⟨#[105, 97]⟩ = z := ⟨_, rfl⟩
            have R1 : ∀ w, Calls Try.prog 121 #[.int .i64 d, .string ⟨#[102, 70, 116, 84, 114]⟩] w fun e w' => e = .returned (.bool z1) ∧ Below w.heap.size w w' := fun w => by rw [← hz1]; exact ref_in _ _ (by decide) w
            have R2 : ∀ w, Calls Try.prog 121 #[.int .i64 d, .string ⟨#[105, 97]⟩] w fun e w' => e = .returned (.bool z2) ∧ Below w.heap.size w w' := fun w => by rw [← hz2]; exact ref_in _ _ (by decide) w
            have HWA := Lib.hid (waits_in a b c d g)
            rw [hz1, hz2] at HWA
            have RR := Lib.hid (show _ ∧ _ from ⟨R1, R2⟩)
            clear R1 R2 hz1 hz2 hown hgrow3 hown3
            go_cut [64] (fun v wx => v = .bool (waitsB ⟨a, b, c, d, g⟩) ∧ Wrt w wx a b c d g v3 (preL b ++ digL a ++ opL c ++ [d]))
            case first =>
              obtain ⟨c0, c1, c2, c3, c4⟩ := HX.blk.five
              rcases z1 with _ | _
              · by_cases hc : c = 0
                · subst hc
                  go_wp2_with fail
                  refine (RR.out.1 _).mono ?_
                  rintro e w4 ⟨rfl, hb4⟩
                  have HX4 := HX.below hb4
                  clear c0 c1 c2 c3 c4
                  obtain ⟨c0, c1, c2, c3, c4⟩ := HX4.blk.five
                  go_wp2
                  go_meet
                  exact ⟨by rw [← HWA.out]; rfl, HX4⟩
                · have hc' : (c != 0) = true := by simpa using hc
                  clear hc
                  go_wp2_with fail
                  refine (RR.out.1 _).mono ?_
                  rintro e w4 ⟨rfl, hb4⟩
                  have HX4 := HX.below hb4
                  clear c0 c1 c2 c3 c4
                  obtain ⟨c0, c1, c2, c3, c4⟩ := HX4.blk.five
                  go_wp2_with fail
                  refine (RR.out.2 _).mono ?_
                  rintro e w5 ⟨rfl, hb5⟩
                  have HX5 := HX4.below hb5
                  go_wp2
                  go_meet
                  exact ⟨by rw [← HWA.out, hc']; simp, HX5⟩
              · go_wp2_with fail
                refine (RR.out.1 _).mono ?_
                rintro e w4 ⟨rfl, hb4⟩
                have HX4 := HX.below hb4
                clear c0 c1 c2 c3 c4
                obtain ⟨c0, c1, c2, c3, c4⟩ := HX4.blk.five
                go_wp2
                go_meet
                exact ⟨by rw [← HWA.out]; simp, HX4⟩
            obtain ⟨rfl, HY⟩ := hcut
            obtain ⟨V4, hV4⟩ : ∃ V, V = wc := ⟨_, rfl⟩
            subst hV4
            obtain ⟨wb, hwb⟩ : ∃ wb, waitsB ⟨a, b, c, d, g⟩ = wb := ⟨_, rfl⟩
            rw [hwb]
            have HWB := Lib.hid hwb
            clear hwb HX HWA RR
            obtain ⟨c0, c1, c2, c3, c4⟩ := HY.blk.five
            have hown := HY.own
            have hz := HY.hz
            have hlen2 : (preL b ++ digL a ++ opL c ++ [d]).length ≤ 7 := by rw [List.length_append]; simp only [List.length_cons, List.length_nil]; omega
            have HW0 := Lib.hid (writeL_eq a b c d g)
            go_upto_if 64 with fail
            go_cut [4] (fun v wx => Wrt w wx a b c d g v (writeL ⟨a, b, c, d, g⟩))
            case first =>
              rcases wb with _ | _
              · go_wp2
                go_meet
                rw [HW0.out, if_neg (by rw [HWB.out]; simp), List.append_nil]
                exact HY
              · go_wp2_with (at_builtin; refine appN rfl _ _ rfl (w.heap.size + 1) _ _ [g] _ 1 1 rfl rfl (hown.alloc _) (ints1 _ _) rfl (by omega) (size_alloc_le hz _) ?_; intro v4 w6 hown4 hgrow4 _)
                go_meet
                rw [HW0.out, if_pos HWB.out]
                exact HY.app hown4 hgrow4
            case rest =>
              have HZ := hcut
              have hlen3 : (writeL ⟨a, b, c, d, g⟩).length ≤ 8 := by
                rw [HW0.out]; split <;> simp at hlen2 ⊢ <;> omega
              clear c0 c1 c2 c3 c4 HY hown hz hlen2 hll hlen HW0 HWB
              obtain ⟨V3, hV⟩ : ∃ V, V = wc := ⟨_, rfl⟩
              subst hV
              obtain ⟨va, vn, vc, rfl⟩ := HZ.own.form
              go_wp2_with fail
              refine (ref_takeAll va vn vc (writeL ⟨a, b, c, d, g⟩) V3 HZ.own.get.2.1 HZ.own.get.1 (by have := HZ.own.get.1; omega)).mono ?_
              rintro e w7 ⟨v7, rfl, ho7, hb7⟩
              have HZ := HZ.below hb7
              have HOK := Lib.hid (show wrOk ⟨a, b, c, d, g⟩ = (decide ((stV (writeL ⟨a, b, c, d, g⟩)).out = [⟨a, b, c, d, g⟩]) && decide ((stV (writeL ⟨a, b, c, d, g⟩)).p = zc5) && decide ((stV (writeL ⟨a, b, c, d, g⟩)).n = 0)) from rfl)
              have hgd := (stV_good (writeL ⟨a, b, c, d, g⟩)).len
              have hgl := (stV_good (writeL ⟨a, b, c, d, g⟩)).lo
              generalize stV (writeL ⟨a, b, c, d, g⟩) = st at *
              obtain ⟨out, ⟨p0, p1, p2, p3, p4⟩, nn⟩ := st
              simp only at ho7 HOK hgd hgl
              have HB8 := Lib.hid (show _ ∧ _ ∧ _ from ⟨Blk.new w7 #[.int .i64 p0, .int .i64 p1, .int .i64 p2, .int .i64 p3, .int .i64 p4] 83, HZ.below (below1 w7 (.cells #[.int .i64 p0, .int .i64 p1, .int .i64 p2, .int .i64 p3, .int .i64 p4] 83)), ho7.alloc (.cells #[.int .i64 p0, .int .i64 p1, .int .i64 p2, .int .i64 p3, .int .i64 p4] 83)⟩)
              clear HZ ho7 hb7 hcut
              go_upto_region 18 with fail
              generalize w7.alloc (.cells #[.int .i64 p0, .int .i64 p1, .int .i64 p2, .int .i64 p3, .int .i64 p4] 83) = w8 at *
              generalize w7.heap.size = N7 at *
              obtain ⟨hP8, HZ, ho8⟩ := HB8.out
              obtain ⟨a7, c7, rfl, hcap, hcap2, hnone⟩ := ho8.form
              obtain ⟨hcm, -⟩ := ho8.cmds
              obtain ⟨c0, c1, c2, c3, c4⟩ := HZ.blk.five
              obtain ⟨q0, q1, q2, q3, q4⟩ := hP8.five
              go_cut [94] (fun v wx => ∃ ok : Bool, v = .bool ok ∧ (ok = false ↔ wrOk ⟨a, b, c, d, g⟩ = true) ∧ ∃ n, wx = w8.drewN n)
              case first =>
                by_cases hl1 : out.length = 1
                · obtain ⟨u, rfl⟩ : ∃ u, out = [u] := by
                    match out, hl1 with
                    | [u], _ => exact ⟨u, rfl⟩
                  rcases hcm with h | ⟨b1, o1, rfl, h1⟩
                  · simp at h
                  have d0 : w8.cell? ⟨b1, o1, none⟩ = some (.int .i64 u.a) := h1 0 (by simp) 0 _ rfl
                  have d1 : w8.cell? ⟨b1, o1 + 1, none⟩ = some (.int .i64 u.b) := h1 0 (by simp) 1 _ rfl
                  have d2 : w8.cell? ⟨b1, o1 + 2, none⟩ = some (.int .i64 u.c) := h1 0 (by simp) 2 _ rfl
                  have d3 : w8.cell? ⟨b1, o1 + 3, none⟩ = some (.int .i64 u.d) := h1 0 (by simp) 3 _ rfl
                  have d4 : w8.cell? ⟨b1, o1 + 4, none⟩ = some (.int .i64 u.e) := h1 0 (by simp) 4 _ rfl
                  obtain ⟨ua, ub, uc, ud, ue⟩ := u
                  simp only at d0 d1 d2 d3 d4
                  clear h1
                  by_cases hua : a = ua
                  · subst hua
                    by_cases hub : b = ub
                    · subst hub
                      by_cases huc : c = uc
                      · subst huc
                        by_cases hud : d = ud
                        · subst hud
                          by_cases hue : g = ue
                          · subst hue
                            by_cases hp0 : p0 = 0
                            · subst hp0
                              by_cases hp1 : p1 = 0
                              · subst hp1
                                by_cases hp2 : p2 = 0
                                · subst hp2
                                  by_cases hp3 : p3 = 0
                                  · subst hp3
                                    by_cases hp4 : p4 = 0
                                    · subst hp4
                                      by_cases hnn : nn = 0
                                      · subst hnn
                                        go_wp2
                                        go_quiet (fail)
                                        go_wp2
                                        go_meet
                                        refine ⟨false, rfl, ⟨fun _ => ?_, fun _ => rfl⟩, _, rfl⟩
                                        rw [HOK.out]
                                        simp [zc5]
                                      · have enn : (0 : Int) < nn := by omega
                                        go_wp2
                                        go_quiet (fail)
                                        go_wp2
                                        go_meet
                                        refine ⟨true, rfl, ⟨Bool.noConfusion, fun h => ?_⟩, _, rfl⟩
                                        rw [HOK.out] at h
                                        simp [zc5] at h
                                        omega
                                    · have ep4 : (p4 == 0) = false := by simp; omega
                                      go_wp2
                                      go_quiet (fail)
                                      go_wp2
                                      go_meet
                                      refine ⟨true, rfl, ⟨Bool.noConfusion, fun h => ?_⟩, _, rfl⟩
                                      rw [HOK.out] at h
                                      simp [zc5] at h
                                      omega
                                  · have ep3 : (p3 == 0) = false := by simp; omega
                                    go_wp2
                                    go_quiet (fail)
                                    go_wp2
                                    go_meet
                                    refine ⟨true, rfl, ⟨Bool.noConfusion, fun h => ?_⟩, _, rfl⟩
                                    rw [HOK.out] at h
                                    simp [zc5] at h
                                    omega
                                · have ep2 : (p2 == 0) = false := by simp; omega
                                  go_wp2
                                  go_quiet (fail)
                                  go_wp2
                                  go_meet
                                  refine ⟨true, rfl, ⟨Bool.noConfusion, fun h => ?_⟩, _, rfl⟩
                                  rw [HOK.out] at h
                                  simp [zc5] at h
                                  omega
                              · have ep1 : (p1 == 0) = false := by simp; omega
                                go_wp2
                                go_quiet (fail)
                                go_wp2
                                go_meet
                                refine ⟨true, rfl, ⟨Bool.noConfusion, fun h => ?_⟩, _, rfl⟩
                                rw [HOK.out] at h
                                simp [zc5] at h
                                omega
                            · have ep0 : (p0 == 0) = false := by simp; omega
                              go_wp2
                              go_quiet (fail)
                              go_wp2
                              go_meet
                              refine ⟨true, rfl, ⟨Bool.noConfusion, fun h => ?_⟩, _, rfl⟩
                              rw [HOK.out] at h
                              simp [zc5] at h
                              omega
                          · have eue : (ue == g) = false := by simp; omega
                            go_wp2
                            go_quiet (fail)
                            go_wp2
                            go_meet
                            refine ⟨true, rfl, ⟨Bool.noConfusion, fun h => ?_⟩, _, rfl⟩
                            rw [HOK.out] at h
                            simp [zc5] at h
                            omega
                        · have eud : (ud == d) = false := by simp; omega
                          go_wp2
                          go_quiet (fail)
                          go_wp2
                          go_meet
                          refine ⟨true, rfl, ⟨Bool.noConfusion, fun h => ?_⟩, _, rfl⟩
                          rw [HOK.out] at h
                          simp [zc5] at h
                          omega
                      · have euc : (uc == c) = false := by simp; omega
                        go_wp2
                        go_quiet (fail)
                        go_wp2
                        go_meet
                        refine ⟨true, rfl, ⟨Bool.noConfusion, fun h => ?_⟩, _, rfl⟩
                        rw [HOK.out] at h
                        simp [zc5] at h
                        omega
                    · have eub : (ub == b) = false := by simp; omega
                      go_wp2
                      go_quiet (fail)
                      go_wp2
                      go_meet
                      refine ⟨true, rfl, ⟨Bool.noConfusion, fun h => ?_⟩, _, rfl⟩
                      rw [HOK.out] at h
                      simp [zc5] at h
                      omega
                  · have eua : (ua == a) = false := by simp; omega
                    go_wp2
                    go_quiet (fail)
                    go_wp2
                    go_meet
                    refine ⟨true, rfl, ⟨Bool.noConfusion, fun h => ?_⟩, _, rfl⟩
                    rw [HOK.out] at h
                    simp [zc5] at h
                    omega
                · have i1 : ¬ ((out.length : Nat) : Int) = 1 := by omega
                  have i2 : (((out.length : Nat) : Int) != 1) = true := by simpa using i1
                  go_wp2
                  go_quiet (fail)
                  go_wp2
                  go_meet
                  refine ⟨true, rfl, ?_, _, rfl⟩
                  rw [HOK.out]
                  simp
                  intro h
                  rw [h] at hl1
                  simp at hl1
              case rest =>
                obtain ⟨ok, rfl, hok, nq, hwx⟩ := hcut
                have HZ9 := Lib.hid (show Wrt w wc a b c d g (.slice va vn vc) (writeL ⟨a, b, c, d, g⟩) by rw [hwx]; exact HZ.below (below_drewN (Below.refl _ _) nq))
                clear hwx
                rcases ok with _ | _
                · have ho := hok.1 rfl
                  go_wp2
                  go_ret2
                  refine ⟨.slice va vn vc, by rw [HE.out.2, if_pos ho]; rfl, by rw [HE.out.1, if_pos ho]; exact HZ9.out.own.mono (by omega), HZ9.out.bel⟩
                · have ho : ¬ wrOk ⟨a, b, c, d, g⟩ = true := fun h => by cases hok.2 h
                  go_wp2
                  go_ret2
                  refine ⟨.slice none 0 0, by rw [HE.out.2, if_neg ho]; rfl, by rw [HE.out.1, if_neg ho]; exact Own.nil _ _ _, HZ9.out.bel⟩
  · by_cases h1 : a < 0
    · have HE := Lib.hid (show wrL ⟨a, b, c, d, g⟩ = [] ∧ wrE ⟨a, b, c, d, g⟩ = 1 by unfold wrL wrE; constructor <;> rw [if_pos (by simp; omega)])
      obtain ⟨c0, c1, c2, c3, c4⟩ := hA.five
      clear hin
      go_wp2
      go_ret2
      exact ⟨.slice none 0 0, by rw [HE.out.2]; rfl, by rw [HE.out.1]; exact Own.nil _ _ _, hacc⟩
    · have h2 : 999 < a := by omega
      have h3 : 0 ≤ a := by omega
      have HE := Lib.hid (show wrL ⟨a, b, c, d, g⟩ = [] ∧ wrE ⟨a, b, c, d, g⟩ = 1 by unfold wrL wrE; constructor <;> rw [if_pos (by simp; omega)])
      obtain ⟨c0, c1, c2, c3, c4⟩ := hA.five
      clear hin
      go_wp2
      go_ret2
      exact ⟨.slice none 0 0, by rw [HE.out.2]; rfl, by rw [HE.out.1]; exact Own.nil _ _ _, hacc⟩

end Go.Proofs.Ytmipnikhgihcpaa
