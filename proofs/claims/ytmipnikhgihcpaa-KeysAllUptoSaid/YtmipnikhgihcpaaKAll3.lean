/- Contract of keys.Write. -/
import Derived.Test.YtmipnikhgihcpaaKAll2
namespace Go.Proofs.Ytmipnikhgihcpaa
open Go.RowKit
set_option linter.unusedVariables false
set_option linter.unusedSimpArgs false

/-- the command's block and what has been written -/
structure Wrt (w wx : World) (a b c d g : Int) (v : Value) (L : List Int) : Prop where
  blk : Blk wx w.heap.size #[.int .i64 a, .int .i64 b, .int .i64 c, .int .i64 d, .int .i64 g] 80
  own : Own 3 (w.heap.size + 1) wx v L
  bel : Below w.heap.size w wx
def preL (b : Int) : List Int := if b ≠ 0 then [34, b] else []
def opL (c : Int) : List Int := if c ≠ 0 then [c] else []
theorem writeL_eq (a b c d g : Int) : writeL ⟨a, b, c, d, g⟩ = preL b ++ digL a ++ opL c ++ [d] ++ (if waitsB ⟨a, b, c, d, g⟩ = true then [g] else []) := rfl
theorem len_pre (b : Int) : (preL b).length ≤ 2 := by unfold preL; split <;> simp
theorem len_op (b : Int) : (opL b).length ≤ 1 := by unfold opL; split <;> simp
theorem len_dig (n : Int) : (digL n).length ≤ 3 := by
  unfold digL; repeat' split
  all_goals simp
def WrPost (c : C5) (w : World) (e : Ending) (w' : World) : Prop :=
  ∃ v, e = .returned (.tuple #[v, .int .i64 (wrE c)]) ∧ Own 3 w.heap.size w' v (wrL c) ∧ Below w.heap.size w w'

theorem ints1 (w : World) (x : Int) : Ints (w.alloc (.cells #[.int .i64 x] 3)) (some ⟨w.heap.size, 0, none⟩) [x] := by
  obtain ⟨y0, -⟩ := Blk.one (Blk.new w #[.int .i64 x] 3)
  refine .inr ⟨_, 0, rfl, fun i hi => ?_⟩
  obtain rfl : i = 0 := by simpa using hi
  exact y0
theorem intsTwo (w : World) (x y : Int) : Ints (w.alloc (.cells #[.int .i64 x, .int .i64 y] 3)) (some ⟨w.heap.size, 0, none⟩) [x, y] := by
  obtain ⟨y0, y1, -, -⟩ := Blk.two (Blk.new w #[.int .i64 x, .int .i64 y] 3)
  refine .inr ⟨_, 0, rfl, fun i hi => ?_⟩
  have hi2 : i = 0 ∨ i = 1 := by simp at hi; omega
  rcases hi2 with rfl | rfl
  · exact y0
  · exact y1
theorem Wrt.app {w w4 w3 : World} {a b c d g : Int} {v v3 : Value} {L L2 : List Int} {o : Obj} (h : Wrt w w4 a b c d g v L) (hown3 : Own 3 (w.heap.size + 1) w3 v3 L2) (hg : (w4.alloc o).grownBy w3 v.ownBlock) : Wrt w w3 a b c d g v3 L2 := by
  have hb := h.bel.alloc h.bel.size o
  refine ⟨(h.blk.alloc o).grown hg (h.own.neBlk h.blk (by decide)), hown3, hb.grown hg (size_alloc_le h.bel.size _) (h.own.mono (by omega)).row⟩
theorem Wrt.below {w w4 w3 : World} {a b c d g : Int} {v : Value} {L : List Int} (h : Wrt w w4 a b c d g v L) (hb : Below w4.heap.size w4 w3) : Wrt w w3 a b c d g v L :=
  ⟨h.blk.below hb h.blk.lt, h.own.kept hb, below_then h.bel h.bel.size hb⟩
theorem Wrt.hz {w w4 : World} {a b c d g : Int} {v : Value} {L : List Int} (h : Wrt w w4 a b c d g v L) : w.heap.size + 1 ≤ w4.heap.size := h.blk.lt

set_option maxRecDepth 100000 in
set_option maxHeartbeats 8000000 in
theorem keys_write (a b c d g : Int) (w : World) :
    Calls Try.prog 51 #[.agg #[.int .i64 a, .int .i64 b, .int .i64 c, .int .i64 d, .int .i64 g]] w (WrPost ⟨a, b, c, d, g⟩ w) := by
  have hA := Blk.new w #[.int .i64 a, .int .i64 b, .int .i64 c, .int .i64 d, .int .i64 g] 80
  have hacc := below1 w (.cells #[.int .i64 a, .int .i64 b, .int .i64 c, .int .i64 d, .int .i64 g] 80)
  go_enter Try.func51, Try.ntmps51
  go_upto_region 1 with fail
  generalize w.alloc (.cells #[.int .i64 a, .int .i64 b, .int .i64 c, .int .i64 d, .int .i64 g] 80) = w1 at *
  by_cases hin : 0 ≤ a ∧ a ≤ 999
  · obtain ⟨ha0, ha1⟩ := hin
    have HE := Lib.hid (show wrL ⟨a, b, c, d, g⟩ = (if wrOk ⟨a, b, c, d, g⟩ = true then writeL ⟨a, b, c, d, g⟩ else []) ∧ wrE ⟨a, b, c, d, g⟩ = (if wrOk ⟨a, b, c, d, g⟩ = true then 0 else 4) by unfold wrL wrE; constructor <;> rw [if_neg (by simp; omega)])
    obtain ⟨c0, c1, c2, c3, c4⟩ := hA.five
    go_upto_if 19 with fail
    go_cut [4] (fun v wx => Wrt w wx a b c d g v (preL b))
    case first =>
      have hz := hA.lt
      by_cases hb : b = 0
      · subst hb
        go_wp2
        go_meet
        exact ⟨hA, Own.nil _ _ _, hacc⟩
      · have hb' : (b != 0) = true := by simpa using hb
        have HB := Lib.hid (show preL b = [34, b] by unfold preL; rw [if_pos hb])
        clear hb
        have h0 : Wrt w w1 a b c d g (.slice none 0 0) [] := ⟨hA, Own.nil _ _ _, hacc⟩
        go_wp2_with (at_builtin; refine appN rfl _ _ rfl (w.heap.size + 1) _ [] [34, b] _ 2 2 rfl rfl (h0.own.alloc _) (intsTwo _ _ _) rfl (by simp) (size_alloc_le h0.hz _) ?_; intro v3 w3 hown3 hgrow3 _)
        go_meet
        rw [HB.out]
        exact h0.app hown3 hgrow3
    case rest =>
      have H6 := hcut
      clear hA hacc c0 c1 c2 c3 c4
      obtain ⟨V, hV⟩ : ∃ V, V = wc := ⟨_, rfl⟩
      subst hV
      go_upto_region 7 with fail
      have D1 := Lib.hid (show (if 100 ≤ a then [48 + a / 100 % 10] else []) ++ (if 10 ≤ a then [48 + a / 10 % 10] else []) ++ (if 1 ≤ a then [48 + a % 10] else []) = digL a from rfl)
      go_loopw [5, 4] (fun nv v wr => ∃ (x : Int) (L : List Int), nv = .int .i64 x ∧ Wrt w wr a b c d g v L ∧ ((x = 100 ∧ L = preL b ∧ L.length ≤ 2) ∨ (x = 10 ∧ L = preL b ++ (if 100 ≤ a then [48 + a / 100 % 10] else []) ∧ L.length ≤ 3) ∨ (x = 1 ∧ L = preL b ++ (if 100 ≤ a then [48 + a / 100 % 10] else []) ++ (if 10 ≤ a then [48 + a / 10 % 10] else []) ∧ L.length ≤ 4) ∨ (x = 0 ∧ L = preL b ++ digL a ∧ L.length ≤ 5))) (fun nv _ _ => (intOf nv).toNat)
      case atStart => exact ⟨100, _, rfl, H6, .inl ⟨rfl, rfl, len_pre b⟩⟩
      case round =>
        obtain ⟨x, L, rfl, HW, hcase⟩ := hrel
        obtain ⟨c0, c1, c2, c3, c4⟩ := HW.blk.five
        rcases hcase with ⟨rfl, hL, hll⟩ | ⟨rfl, hL, hll⟩ | ⟨rfl, hL, hll⟩ | ⟨rfl, hL, hll⟩
        · subst hL
          have hown := HW.own
          have hz := HW.hz
          by_cases hd : 100 ≤ a
          · go_wp2_with (at_builtin; refine appN rfl _ _ rfl (w.heap.size + 1) _ _ [48 + a / 100 % 10] _ 1 1 rfl rfl (hown.alloc _) (ints1 _ _) rfl (by omega) (size_alloc_le hz _) ?_; intro v3 w3 hown3 hgrow3 _)
            go_roundw
            case rel => exact ⟨10, _, rfl, HW.app hown3 hgrow3, .inr (.inl ⟨rfl, by rw [if_pos hd], by simp; omega⟩)⟩
            case measure => simp [intOf]
          · go_wp2
            go_roundw
            case rel => exact ⟨10, _, rfl, HW, .inr (.inl ⟨rfl, by rw [if_neg hd]; simp, by omega⟩)⟩
            case measure => simp [intOf]
        · have HL := Lib.hid hL
          clear hL
          have hown := HW.own
          have hz := HW.hz
          by_cases hd : 10 ≤ a
          · go_wp2_with (at_builtin; refine appN rfl _ _ rfl (w.heap.size + 1) _ _ [48 + a / 10 % 10] _ 1 1 rfl rfl (hown.alloc _) (ints1 _ _) rfl (by omega) (size_alloc_le hz _) ?_; intro v3 w3 hown3 hgrow3 _)
            go_roundw
            case rel => exact ⟨1, _, rfl, HW.app hown3 hgrow3, .inr (.inr (.inl ⟨rfl, by rw [HL.out, if_pos hd], by simp; omega⟩))⟩
            case measure => simp [intOf]
          · go_wp2
            go_roundw
            case rel => exact ⟨1, _, rfl, HW, .inr (.inr (.inl ⟨rfl, by rw [HL.out, if_neg hd]; simp, by omega⟩))⟩
            case measure => simp [intOf]
        · have HL := Lib.hid hL
          clear hL
          have hown := HW.own
          have hz := HW.hz
          by_cases hd : 1 ≤ a
          · go_wp2_with (at_builtin; refine appN rfl _ _ rfl (w.heap.size + 1) _ _ [48 + a % 10] _ 1 1 rfl rfl (hown.alloc _) (ints1 _ _) rfl (by omega) (size_alloc_le hz _) ?_; intro v3 w3 hown3 hgrow3 _)
            go_roundw
            case rel => exact ⟨0, _, rfl, HW.app hown3 hgrow3, .inr (.inr (.inr ⟨rfl, by rw [HL.out, ← D1.out, if_pos hd]; simp, by simp; omega⟩))⟩
            case measure => simp [intOf]
          · go_wp2
            go_roundw
            case rel => exact ⟨0, _, rfl, HW, .inr (.inr (.inr ⟨rfl, by rw [HL.out, ← D1.out, if_neg hd]; simp, by omega⟩))⟩
            case measure => simp [intOf]
        · subst hL
          go_upto_if 44 with fail
          go_cut [4] (fun v wx => Wrt w wx a b c d g v (preL b ++ digL a ++ opL c))
          case first =>
            have hown := HW.own
            have hz := HW.hz
            by_cases hc : c = 0
            · have HC := Lib.hid (show opL c = [] by unfold opL; rw [hc]; rfl)
              subst hc
              go_wp2
              go_meet
              rw [HC.out, List.append_nil]
              exact HW
            · have HC := Lib.hid (show opL c = [c] by unfold opL; rw [if_pos hc])
              have hc' : (c != 0) = true := by simpa using hc
              clear hc
              go_wp2_with (at_builtin; refine appN rfl _ _ rfl (w.heap.size + 1) _ _ [c] _ 1 1 rfl rfl (hown.alloc _) (ints1 _ _) rfl (by omega) (size_alloc_le hz _) ?_; intro v3 w3 hown3 hgrow3 _)
              go_meet
              rw [HC.out]
              exact HW.app hown3 hgrow3
          case rest =>
            have HV := hcut
            obtain ⟨V2, hV⟩ : ∃ V, V = wc := ⟨_, rfl⟩
            subst hV
            clear c0 c1 c2 c3 c4 HW H6
            obtain ⟨c0, c1, c2, c3, c4⟩ := HV.blk.five
            have hown := HV.own
            have hz := HV.hz
            have hlen : (preL b ++ digL a ++ opL c).length ≤ 6 := by have := len_op c; simp at hll ⊢; omega
            go_wp2_with (at_builtin; refine appN rfl _ _ rfl (w.heap.size + 1) _ _ [d] _ 1 1 rfl rfl (hown.alloc _) (ints1 _ _) rfl (by omega) (size_alloc_le hz _) ?_; intro v3 w3 hown3 hgrow3 _; obtain ⟨c0, c1, c2, c3, c4⟩ := (HV.app hown3 hgrow3).blk.five)
            have HX := HV.app hown3 hgrow3
            clear c0 c1 c2 c3 c4 HV
            obtain ⟨c0, c1, c2, c3, c4⟩ := HX.blk.five
            refine (keys_waits a b c d g _).mono ?_
            rintro e w5 ⟨rfl, hb5⟩
            obtain ⟨wb, hwb⟩ : ∃ wb, waitsB ⟨a, b, c, d, g⟩ = wb := ⟨_, rfl⟩
            rw [hwb]
            have HWB := Lib.hid hwb
            have HY := HX.below hb5
            clear c0 c1 c2 c3 c4 HX hb5 hwb hown
            obtain ⟨c0, c1, c2, c3, c4⟩ := HY.blk.five
            have hown := HY.own
            have hz := HY.hz
            have hlen2 : (preL b ++ digL a ++ opL c ++ [d]).length ≤ 7 := by rw [List.length_append]; simp only [List.length_cons, List.length_nil]; omega
            have HW0 := Lib.hid (writeL_eq a b c d g)
            go_upto_if 56 with fail
            go_cut [4] (fun v wx => Wrt w wx a b c d g v (writeL ⟨a, b, c, d, g⟩))
            case first =>
              rcases wb with _ | _
              · go_wp2
                go_meet
                rw [HW0.out, if_neg (by rw [HWB.out]; simp), List.append_nil]
                exact HY
              · go_wp2_with (at_builtin; refine appN rfl _ _ rfl (w.heap.size + 1) _ _ [g] _ 1 1 rfl rfl (hown.alloc _) (ints1 _ _) rfl (by omega) (size_alloc_le hz _) ?_; intro v4 w6 hown4 hgrow4 _)
                go_meet
                rw [HW0.out, if_pos HWB.out]
                exact HY.app hown4 hgrow4
            case rest =>
              have HZ := hcut
              have hlen3 : (writeL ⟨a, b, c, d, g⟩).length ≤ 8 := by
                rw [HW0.out]; split <;> simp at hlen2 ⊢ <;> omega
              clear c0 c1 c2 c3 c4 HY hown hz hlen2 hll hlen HW0 HWB D1
              obtain ⟨V3, hV⟩ : ∃ V, V = wc := ⟨_, rfl⟩
              subst hV
              obtain ⟨va, vn, vc, rfl⟩ := HZ.own.form
              go_wp2_with fail
              refine (keys_all va vn vc (writeL ⟨a, b, c, d, g⟩) V3 HZ.own.get.2.1 HZ.own.get.1 (by have := HZ.own.get.1; omega)).mono ?_
              rintro e w7 ⟨v7, rfl, ho7, hb7⟩
              have HZ := HZ.below hb7
              have HOK := Lib.hid (show wrOk ⟨a, b, c, d, g⟩ = (decide ((stV (writeL ⟨a, b, c, d, g⟩)).out = [⟨a, b, c, d, g⟩]) && decide ((stV (writeL ⟨a, b, c, d, g⟩)).p = zc5) && decide ((stV (writeL ⟨a, b, c, d, g⟩)).n = 0)) from rfl)
              have hgd := (stV_good (writeL ⟨a, b, c, d, g⟩)).len
              generalize stV (writeL ⟨a, b, c, d, g⟩) = st at *
              obtain ⟨out, ⟨p0, p1, p2, p3, p4⟩, nn⟩ := st
              simp only at ho7 HOK hgd
              have HB8 := Lib.hid (show _ ∧ _ ∧ _ from ⟨Blk.new w7 #[.int .i64 p0, .int .i64 p1, .int .i64 p2, .int .i64 p3, .int .i64 p4] 83, HZ.below (below1 w7 (.cells #[.int .i64 p0, .int .i64 p1, .int .i64 p2, .int .i64 p3, .int .i64 p4] 83)), ho7.alloc (.cells #[.int .i64 p0, .int .i64 p1, .int .i64 p2, .int .i64 p3, .int .i64 p4] 83)⟩)
              clear HZ ho7 hb7 hcut
              go_upto_region 17 with fail
              generalize w7.alloc (.cells #[.int .i64 p0, .int .i64 p1, .int .i64 p2, .int .i64 p3, .int .i64 p4] 83) = w8 at *
              generalize w7.heap.size = N7 at *
              obtain ⟨hP8, HZ, ho8⟩ := HB8.out
              obtain ⟨a7, c7, rfl, hcap, hcap2, hnone⟩ := ho8.form
              obtain ⟨hcm, -⟩ := ho8.cmds
              obtain ⟨c0, c1, c2, c3, c4⟩ := HZ.blk.five
              obtain ⟨q0, q1, q2, q3, q4⟩ := hP8.five
              go_cut [86] (fun v wx => ∃ ok : Bool, v = .bool ok ∧ (ok = false ↔ wrOk ⟨a, b, c, d, g⟩ = true) ∧ ∃ n, wx = w8.drewN n)
              case first =>
                by_cases hl1 : out.length = 1
                · obtain ⟨u, rfl⟩ : ∃ u, out = [u] := by
                    match out, hl1 with
                    | [u], _ => exact ⟨u, rfl⟩
                  rcases hcm with h | ⟨b1, o1, rfl, h1⟩
                  · simp at h
                  have d0 : w8.cell? ⟨b1, o1, none⟩ = some (.int .i64 u.a) := h1 0 (by simp) 0 _ rfl
                  have d1 : w8.cell? ⟨b1, o1 + 1, none⟩ = some (.int .i64 u.b) := h1 0 (by simp) 1 _ rfl
                  have d2 : w8.cell? ⟨b1, o1 + 2, none⟩ = some (.int .i64 u.c) := h1 0 (by simp) 2 _ rfl
                  have d3 : w8.cell? ⟨b1, o1 + 3, none⟩ = some (.int .i64 u.d) := h1 0 (by simp) 3 _ rfl
                  have d4 : w8.cell? ⟨b1, o1 + 4, none⟩ = some (.int .i64 u.e) := h1 0 (by simp) 4 _ rfl
                  obtain ⟨ua, ub, uc, ud, ue⟩ := u
                  simp only at d0 d1 d2 d3 d4
                  clear h1
                  by_cases hua : a = ua
                  · subst hua
                    by_cases hub : b = ub
                    · subst hub
                      by_cases huc : c = uc
                      · subst huc
                        by_cases hud : d = ud
                        · subst hud
                          by_cases hue : g = ue
                          · subst hue
                            by_cases hp0 : p0 = 0
                            · subst hp0
                              by_cases hp1 : p1 = 0
                              · subst hp1
                                by_cases hp2 : p2 = 0
                                · subst hp2
                                  by_cases hp3 : p3 = 0
                                  · subst hp3
                                    by_cases hp4 : p4 = 0
                                    · subst hp4
                                      by_cases hnn : nn = 0
                                      · subst hnn
                                        go_wp2
                                        go_quiet (fail)
                                        go_wp2
                                        go_meet
                                        refine ⟨false, rfl, ⟨fun _ => ?_, fun _ => rfl⟩, _, rfl⟩
                                        rw [HOK.out]
                                        simp [zc5]
                                      · have enn : (nn != 0) = true := by simp; omega
                                        go_wp2
                                        go_quiet (fail)
                                        go_wp2
                                        go_meet
                                        refine ⟨true, rfl, ⟨Bool.noConfusion, fun h => ?_⟩, _, rfl⟩
                                        rw [HOK.out] at h
                                        simp [zc5] at h
                                        omega
                                    · have ep4 : (p4 == 0) = false := by simp; omega
                                      go_wp2
                                      go_quiet (fail)
                                      go_wp2
                                      go_meet
                                      refine ⟨true, rfl, ⟨Bool.noConfusion, fun h => ?_⟩, _, rfl⟩
                                      rw [HOK.out] at h
                                      simp [zc5] at h
                                      omega
                                  · have ep3 : (p3 == 0) = false := by simp; omega
                                    go_wp2
                                    go_quiet (fail)
                                    go_wp2
                                    go_meet
                                    refine ⟨true, rfl, ⟨Bool.noConfusion, fun h => ?_⟩, _, rfl⟩
                                    rw [HOK.out] at h
                                    simp [zc5] at h
                                    omega
                                · have ep2 : (p2 == 0) = false := by simp; omega
                                  go_wp2
                                  go_quiet (fail)
                                  go_wp2
                                  go_meet
                                  refine ⟨true, rfl, ⟨Bool.noConfusion, fun h => ?_⟩, _, rfl⟩
                                  rw [HOK.out] at h
                                  simp [zc5] at h
                                  omega
                              · have ep1 : (p1 == 0) = false := by simp; omega
                                go_wp2
                                go_quiet (fail)
                                go_wp2
                                go_meet
                                refine ⟨true, rfl, ⟨Bool.noConfusion, fun h => ?_⟩, _, rfl⟩
                                rw [HOK.out] at h
                                simp [zc5] at h
                                omega
                            · have ep0 : (p0 == 0) = false := by simp; omega
                              go_wp2
                              go_quiet (fail)
                              go_wp2
                              go_meet
                              refine ⟨true, rfl, ⟨Bool.noConfusion, fun h => ?_⟩, _, rfl⟩
                              rw [HOK.out] at h
                              simp [zc5] at h
                              omega
                          · have eue : (ue == g) = false := by simp; omega
                            go_wp2
                            go_quiet (fail)
                            go_wp2
                            go_meet
                            refine ⟨true, rfl, ⟨Bool.noConfusion, fun h => ?_⟩, _, rfl⟩
                            rw [HOK.out] at h
                            simp [zc5] at h
                            omega
                        · have eud : (ud == d) = false := by simp; omega
                          go_wp2
                          go_quiet (fail)
                          go_wp2
                          go_meet
                          refine ⟨true, rfl, ⟨Bool.noConfusion, fun h => ?_⟩, _, rfl⟩
                          rw [HOK.out] at h
                          simp [zc5] at h
                          omega
                      · have euc : (uc == c) = false := by simp; omega
                        go_wp2
                        go_quiet (fail)
                        go_wp2
                        go_meet
                        refine ⟨true, rfl, ⟨Bool.noConfusion, fun h => ?_⟩, _, rfl⟩
                        rw [HOK.out] at h
                        simp [zc5] at h
                        omega
                    · have eub : (ub == b) = false := by simp; omega
                      go_wp2
                      go_quiet (fail)
                      go_wp2
                      go_meet
                      refine ⟨true, rfl, ⟨Bool.noConfusion, fun h => ?_⟩, _, rfl⟩
                      rw [HOK.out] at h
                      simp [zc5] at h
                      omega
                  · have eua : (ua == a) = false := by simp; omega
                    go_wp2
                    go_quiet (fail)
                    go_wp2
                    go_meet
                    refine ⟨true, rfl, ⟨Bool.noConfusion, fun h => ?_⟩, _, rfl⟩
                    rw [HOK.out] at h
                    simp [zc5] at h
                    omega
                · have i1 : ¬ ((out.length : Nat) : Int) = 1 := by omega
                  have i2 : (((out.length : Nat) : Int) != 1) = true := by simpa using i1
                  go_wp2
                  go_quiet (fail)
                  go_wp2
                  go_meet
                  refine ⟨true, rfl, ?_, _, rfl⟩
                  rw [HOK.out]
                  simp
                  intro h
                  rw [h] at hl1
                  simp at hl1
              case rest =>
                obtain ⟨ok, rfl, hok, nq, hwx⟩ := hcut
                have HZ9 := Lib.hid (show Wrt w wc a b c d g (.slice va vn vc) (writeL ⟨a, b, c, d, g⟩) by rw [hwx]; exact HZ.below (below_drewN (Below.refl _ _) nq))
                clear hwx
                rcases ok with _ | _
                · have ho := hok.1 rfl
                  go_wp2
                  go_ret2
                  refine ⟨.slice va vn vc, by rw [HE.out.2, if_pos ho]; rfl, by rw [HE.out.1, if_pos ho]; exact HZ9.out.own.mono (by omega), HZ9.out.bel⟩
                · have ho : ¬ wrOk ⟨a, b, c, d, g⟩ = true := fun h => by cases hok.2 h
                  go_wp2
                  go_ret2
                  refine ⟨.slice none 0 0, by rw [HE.out.2, if_neg ho]; rfl, by rw [HE.out.1, if_neg ho]; exact Own.nil _ _ _, HZ9.out.bel⟩
  · by_cases h1 : a < 0
    · have HE := Lib.hid (show wrL ⟨a, b, c, d, g⟩ = [] ∧ wrE ⟨a, b, c, d, g⟩ = 1 by unfold wrL wrE; constructor <;> rw [if_pos (by simp; omega)])
      obtain ⟨c0, c1, c2, c3, c4⟩ := hA.five
      clear hin
      go_wp2
      go_ret2
      exact ⟨.slice none 0 0, by rw [HE.out.2]; rfl, by rw [HE.out.1]; exact Own.nil _ _ _, hacc⟩
    · have h2 : 999 < a := by omega
      have h3 : 0 ≤ a := by omega
      have HE := Lib.hid (show wrL ⟨a, b, c, d, g⟩ = [] ∧ wrE ⟨a, b, c, d, g⟩ = 1 by unfold wrL wrE; constructor <;> rw [if_pos (by simp; omega)])
      obtain ⟨c0, c1, c2, c3, c4⟩ := hA.five
      clear hin
      go_wp2
      go_ret2
      exact ⟨.slice none 0 0, by rw [HE.out.2]; rfl, by rw [HE.out.1]; exact Own.nil _ _ _, hacc⟩

end Go.Proofs.Ytmipnikhgihcpaa
