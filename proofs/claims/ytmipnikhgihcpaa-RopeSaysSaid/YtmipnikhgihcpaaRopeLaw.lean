/- The walk of the law RopeSays. -/
import Derived.Test.YtmipnikhgihcpaaRopeR3
import Derived.Deep.CutBlock
namespace Go.Proofs.Ytmipnikhgihcpaa
open Go.RowKit
set_option linter.unusedVariables false
set_option linter.unusedSimpArgs false

/-- what the law holds: both ropes, both lists -/
structure RSt (V : World) (b9 b11 : Nat) (p q : Option Addr) (T O : Tr) (la ma : Option Addr) (lm lc mm mc : Nat) (xs ys : List Int) : Prop where
  b9 : Blk V b9 #[.pointer p] 66
  b11 : Blk V b11 #[.pointer q] 66
  tT : TreeR V (.pointer p) T
  tO : TreeR V (.pointer q) O
  sL : Sl V (.slice la lm lc) xs
  sM : Sl V (.slice ma mm mc) ys
theorem RSt.below {V V' : World} {b9 b11 : Nat} {p q : Option Addr} {T O : Tr} {la ma : Option Addr} {lm lc mm mc : Nat} {xs ys : List Int} (h : RSt V b9 b11 p q T O la ma lm lc mm mc xs ys) (hb : Below V.heap.size V V') : RSt V' b9 b11 p q T O la ma lm lc mm mc xs ys :=
  ⟨h.b9.below hb h.b9.lt, h.b11.below hb h.b11.lt, h.tT.below hb, h.tO.below hb, h.sL.below hb, h.sM.below hb⟩

theorem two_blks (w : World) (u v : Value) : Blk ((w.alloc (.cells #[u] 66)).alloc (.cells #[v] 66)) w.heap.size #[u] 66 ∧ Blk ((w.alloc (.cells #[u] 66)).alloc (.cells #[v] 66)) (w.heap.size + 1) #[v] 66 ∧ Below w.heap.size w ((w.alloc (.cells #[u] 66)).alloc (.cells #[v] 66)) := by
  have h := Blk.new (w.alloc (.cells #[u] 66)) #[v] 66
  rw [World.size_alloc] at h
  exact ⟨(Blk.new _ _ _).alloc _, h, below2 _ _ _⟩
set_option maxRecDepth 100000 in
set_option maxHeartbeats 4000000 in
theorem ropeSays_large (la ma : Option Addr) (lm lc mm mc : Nat) (xs ys : List Int) (f t : Int) (w : World) (hl : Sl w (.slice la lm lc) xs) (hm : Sl w (.slice ma mm mc) ys) (hbig : 4096 < lm ∨ 4096 < mm) :
    Calls Try.prog 7 #[.slice la lm lc, .slice ma mm mc, .int .i64 f, .int .i64 t] w fun e w' => e = .returned (.bool true) ∧ Below w.heap.size w w' := by
  have h3 := hl.get.2.1; have h4 := hl.get.2.2.1; have h5 := hm.get.2.1; have h6 := hm.get.2.2.1
  by_cases hlb : 4096 < lm
  · have HO := Lib.hid (rope_of_large la lm lc w hlb)
    by_cases hmb : 4096 < mm
    · clear hl hm hbig
      go_enter Try.func7, Try.ntmps7
      go_wp2_with fail
      refine HO.out.mono ?_
      rintro e w1 ⟨p, T, rfl, -, -, hb1⟩
      have hz1 := hb1.size
      have hacc := hb1.alloc hz1 (.cells #[.pointer p] 66)
      go_wp2_with fail
      refine (rope_of_large ma mm mc _ hmb).mono ?_
      rintro e w2 ⟨q, O, rfl, -, -, hb2⟩
      have hacc2 := below_then hacc hacc.size hb2
      go_wp2
      go_ret
      exact ⟨ret1_bool (by first | (simp; omega) | simp), hacc2.alloc hacc2.size _⟩
    · have HM := Lib.hid hm
      clear hl hm hbig
      go_enter Try.func7, Try.ntmps7
      go_wp2_with fail
      refine HO.out.mono ?_
      rintro e w1 ⟨p, T, rfl, -, -, hb1⟩
      have hz1 := hb1.size
      have hacc := hb1.alloc hz1 (.cells #[.pointer p] 66)
      go_wp2_with fail
      refine (rope_of ma mm mc ys _ (by omega) ((HM.out.below hb1).below (below1 w1 _))).mono ?_
      rintro e w2 ⟨q, O, rfl, -, -, hb2⟩
      have hacc2 := below_then hacc hacc.size hb2
      go_wp2
      go_ret
      exact ⟨ret1_bool (by first | (simp; omega) | simp), hacc2.alloc hacc2.size _⟩
  · have hmb : 4096 < mm := by omega
    have HO := Lib.hid (rope_of la lm lc xs w (by omega) hl)
    clear hl hm hbig
    go_enter Try.func7, Try.ntmps7
    go_wp2_with fail
    refine HO.out.mono ?_
    rintro e w1 ⟨p, T, rfl, -, -, hb1⟩
    have hz1 := hb1.size
    have hacc := hb1.alloc hz1 (.cells #[.pointer p] 66)
    go_wp2_with fail
    refine (rope_of_large ma mm mc _ hmb).mono ?_
    rintro e w2 ⟨q, O, rfl, -, -, hb2⟩
    have hacc2 := below_then hacc hacc.size hb2
    go_wp2
    go_ret
    exact ⟨ret1_bool (by first | (simp; omega) | simp), hacc2.alloc hacc2.size _⟩

set_option maxRecDepth 100000 in
set_option maxHeartbeats 40000000 in
theorem ropeSays_small (la ma : Option Addr) (lm lc mm mc : Nat) (xs ys : List Int) (f t : Int) (w : World) (hl : Sl w (.slice la lm lc) xs) (hm : Sl w (.slice ma mm mc) ys) (hlm : lm ≤ 4096) (hmm : mm ≤ 4096) :
    Calls Try.prog 7 #[.slice la lm lc, .slice ma mm mc, .int .i64 f, .int .i64 t] w fun e w' => e = .returned (.bool true) ∧ Below w.heap.size w w' := by
  have HXL := Lib.hid hl.get.1; have HYL := Lib.hid hm.get.1
  have HO := Lib.hid (rope_of la lm lc xs w hlm hl)
  have HL := Lib.hid hl; have HM := Lib.hid hm
  clear hl hm
  go_enter Try.func7, Try.ntmps7
  go_wp2_with fail
  refine HO.out.mono ?_
  rintro e w1 ⟨p, T, rfl, hT, hTX, hb1⟩
  have hB9 := Blk.new w1 #[.pointer p] 66
  have hk1 := below1 w1 (.cells #[.pointer p] 66)
  have hz1 := hb1.size
  have hacc := hb1.alloc hz1 (.cells #[.pointer p] 66)
  have hT2 := hT.below hk1
  have HL2 := Lib.hid ((HL.out.below hb1).below hk1); have HM2 := Lib.hid ((HM.out.below hb1).below hk1)
  go_upto_region 2 with fail
  clear hT HL HM HO
  generalize (w1.alloc (.cells #[.pointer p] 66)) = w2 at *
  generalize w1.heap.size = b9 at *
  go_wp2_with fail
  refine (rope_of ma mm mc ys _ hmm HM2.out).mono ?_
  rintro e w3 ⟨q, O, rfl, hO, hOX, hb3⟩
  have hB11 := Blk.new w3 #[.pointer q] 66
  have hk3 := below1 w3 (.cells #[.pointer q] 66)
  have hacc3 := below_then hacc hacc.size hb3
  have hacc1 := hacc3.alloc hacc3.size (.cells #[.pointer q] 66)
  have hS : RSt (w3.alloc (.cells #[.pointer q] 66)) b9 w3.heap.size p q T O la ma lm lc mm mc xs ys :=
    ⟨(hB9.below hb3 hB9.lt).below hk3 (hB9.below hb3 hB9.lt).lt, hB11, (hT2.below hb3).below hk3, hO.below hk3, (HL2.out.below hb3).below hk3, (HM2.out.below hb3).below hk3⟩
  have H1 := Lib.hid hS
  go_upto_region 3 with fail
  clear hS hB9 hB11 hk3 hacc3 hb3 hO hT2 HL2 HM2 hk1 hb1 hacc
  generalize (w3.alloc (.cells #[.pointer q] 66)) = V1 at *
  generalize w3.heap.size = b11 at *
  have HTL := Lib.hid (show T.toL.length = lm by rw [hTX]; exact HXL.out); have HOL := Lib.hid (show O.toL.length = mm by rw [hOX]; exact HYL.out)
  have HTX := Lib.hid hTX; have HOX := Lib.hid hOX
  clear hTX hOX
  go_upto_region 5 with fail
  go_cut [73] (fun s73 wx => s73 = .bool false ∧ Below V1.heap.size V1 wx)
  case first => as_aux_lemma =>
    obtain ⟨c0, -⟩ := H1.out.b9.one
    obtain ⟨d0, -⟩ := H1.out.b11.one
    go_wp2_with fail
    refine (rope_len p T _ H1.out.tT).mono ?_
    rintro e w2 ⟨rfl, hb2⟩
    rw [HTL.out]
    have H2 := Lib.hid (H1.out.below hb2)
    clear c0 d0
    obtain ⟨c0, -⟩ := H2.out.b9.one
    obtain ⟨d0, -⟩ := H2.out.b11.one
    go_wp2_with fail
    refine (rope_list p T _ H2.out.tT (by rw [HTL.out]; omega)).mono ?_
    rintro e w3 ⟨v3, rfl, ho3, hb3⟩
    obtain ⟨va, vn, vc, rfl⟩ := ho3.form
    have K1 := Lib.hid ho3.get.1
    have hvn : vn ≤ 9223372036854775807 := by have := K1.out; have := HTL.out; omega
    rw [HTX.out] at ho3 K1
    have H3 := Lib.hid (H2.out.below hb3)
    go_wp2_with fail
    refine (slices_same va la vn lm vc lc xs _ ho3.get.2.1 H3.out.sL.get.2.2.2.1 K1.out H3.out.sL.get.1 hvn).mono ?_
    rintro e w4 ⟨rfl, nq, rfl⟩
    go_wp2
    go_meet
    exact ⟨rfl, below_drewN (below_then hb2 hb2.size hb3) nq⟩
  case rest =>
    obtain ⟨rfl, hb1⟩ := hcut
    obtain ⟨V2, hVe⟩ : ∃ V, V = wc := ⟨_, rfl⟩
    subst hVe
    have H2 := Lib.hid (H1.out.below hb1)
    have hacc2 := below_then hacc1 hacc1.size hb1
    clear hb1
    go_upto_region 7 with fail
    go_cut [13, 10] (fun s13 s10 wx => (∃ cv ev : Int, s13 = .int .i64 cv ∧ s10 = .int .i64 ev ∧ ((∃ k : Nat, f = (k : Int) ∧ k < lm ∧ cv = ix xs k ∧ ev = 0) ∨ ((f < 0 ∨ (lm : Int) ≤ f) ∧ cv = 0 ∧ ev = 1))) ∧ Below V2.heap.size V2 wx)
    case first => as_aux_lemma =>
      by_cases hin : 0 ≤ f ∧ f < (lm : Int)
      · obtain ⟨k, rfl⟩ := Int.eq_ofNat_of_zero_le hin.1
        have hk : k < lm := by omega
        obtain ⟨c0, -⟩ := H2.out.b9.one
        obtain ⟨d0, -⟩ := H2.out.b11.one
        go_wp2_with fail
        refine (rope_at p T k _ H2.out.tT (by rw [HTL.out]; omega) (by rw [HTL.out]; exact hk)).mono ?_
        rintro e w3 ⟨rfl, hb3⟩
        rw [HTX.out]
        go_wp2
        go_meet
        exact ⟨⟨_, _, rfl, rfl, .inl ⟨k, rfl, hk, rfl, rfl⟩⟩, hb3⟩
      · obtain ⟨c0, -⟩ := H2.out.b9.one
        obtain ⟨d0, -⟩ := H2.out.b11.one
        go_wp2_with fail
        refine (rope_at_bad p T f _ H2.out.tT (by rw [HTL.out]; omega) (by rw [HTL.out]; omega)).mono ?_
        rintro e w3 ⟨rfl, hb3⟩
        go_wp2
        go_meet
        exact ⟨⟨_, _, rfl, rfl, .inr ⟨by omega, rfl, rfl⟩⟩, hb3⟩
    case rest =>
      obtain ⟨⟨cv, ev, rfl, rfl, hAt⟩, hb2⟩ := hcut
      obtain ⟨V3, hVe⟩ : ∃ V, V = wc := ⟨_, rfl⟩
      subst hVe
      have H3 := Lib.hid (H2.out.below hb2)
      have hacc3 := below_then hacc2 hacc2.size hb2
      clear hb2
      go_upto_region 8 with fail
      go_cut [14] (fun s14 wx => (∃ bi : Bool, s14 = .bool bi ∧ (bi = true ↔ (0 ≤ f ∧ f < (lm : Int)))) ∧ Below V3.heap.size V3 wx)
      case first => as_aux_lemma =>
        by_cases h1 : f < 0
        · go_wp2
          go_meet
          exact ⟨⟨false, rfl, by constructor <;> intro h <;> first | omega | cases h⟩, Below.refl _ _⟩
        · have h3 : 0 ≤ f := by omega
          by_cases h2 : f < (lm : Int)
          · go_wp2
            go_meet
            exact ⟨⟨true, rfl, by constructor <;> intro h <;> first | exact ⟨h3, h2⟩ | rfl⟩, Below.refl _ _⟩
          · have h4 : (lm : Int) ≤ f := by omega
            go_wp2
            go_meet
            exact ⟨⟨false, rfl, by constructor <;> intro h <;> first | omega | cases h⟩, Below.refl _ _⟩
      case rest =>
        obtain ⟨⟨bi, rfl, hbi⟩, hb3⟩ := hcut
        obtain ⟨V4, hVe⟩ : ∃ V, V = wc := ⟨_, rfl⟩
        subst hVe
        have H4 := Lib.hid (H3.out.below hb3)
        have hacc4 := below_then hacc3 hacc3.size hb3
        clear hb3
        go_upto_region 9 with fail
        go_cut [114] (fun s114 wx => s114 = .bool false ∧ Below V4.heap.size V4 wx)
        case first => as_aux_lemma =>
          rcases hAt with ⟨k, rfl, hk, rfl, rfl⟩ | ⟨hout, rfl, rfl⟩
          · obtain rfl : bi = true := hbi.2 (by omega)
            obtain ⟨bb, oo, rfl, -⟩ := H4.out.sL.get.2.2.2.1.at (k := 0) (by rw [HXL.out]; omega)
            have e1 := H4.out.sL.get.2.2.2.1.cellB (k := k) (by rw [HXL.out]; exact hk)
            have i1 : (0 : Int) ≤ (k : Int) := by omega
            have i2 : (k : Int) < (lm : Int) := by omega
            clear hbi
            go_wp2
            go_meet
            exact ⟨rfl, Below.refl _ _⟩
          · obtain rfl : bi = false := by
              cases bi with
              | false => rfl
              | true => have := hbi.1 rfl; omega
            clear hbi hout
            go_wp2
            go_meet
            exact ⟨rfl, Below.refl _ _⟩
        case rest =>
          obtain ⟨rfl, hb4⟩ := hcut
          obtain ⟨V5, hVe⟩ : ∃ V, V = wc := ⟨_, rfl⟩
          subst hVe
          have H5 := Lib.hid (H4.out.below hb4)
          have hacc5 := below_then hacc4 hacc4.size hb4
          clear hb4 hAt hbi
          go_upto_region 11 with fail
          go_cut [15, 16, 10] (fun s15 s16 s10 wx => (∃ (b15 b16 : Nat) (pa pb : Option Addr) (A B : Tr) (ev : Int), s15 = .pointer (some ⟨b15, 0, none⟩) ∧ s16 = .pointer (some ⟨b16, 0, none⟩) ∧ s10 = .int .i64 ev ∧ Blk wx b15 #[.pointer pa] 66 ∧ Blk wx b16 #[.pointer pb] 66 ∧ TreeR wx (.pointer pa) A ∧ TreeR wx (.pointer pb) B ∧ ((∃ k : Nat, f = (k : Int) ∧ k ≤ lm ∧ A.toL = xs.take k ∧ B.toL = xs.drop k ∧ ev = 0) ∨ ((f < 0 ∨ (lm : Int) < f) ∧ A.toL = [] ∧ B.toL = [] ∧ ev = 1))) ∧ Below V5.heap.size V5 wx)
          case first => as_aux_lemma =>
            obtain ⟨c0, -⟩ := H5.out.b9.one
            obtain ⟨d0, -⟩ := H5.out.b11.one
            by_cases hin : 0 ≤ f ∧ f ≤ (lm : Int)
            · obtain ⟨k, rfl⟩ := Int.eq_ofNat_of_zero_le hin.1
              have hk : k ≤ lm := by omega
              go_wp2_with fail
              refine (rope_splitM p T k _ H5.out.tT (by rw [HTL.out]; omega) (by rw [HTL.out]; exact hk)).mono ?_
              rintro e w3 ⟨pa, pb, A, B, rfl, hA, hAL, hB, hBL, hb3⟩
              obtain ⟨k1, k2, k3⟩ := two_blks w3 (.pointer pa) (.pointer pb)
              have hall := below_then hb3 hb3.size k3
              have hA2 := hA.below k3; have hB2 := hB.below k3
              have HK := Lib.hid (show _ ∧ _ ∧ _ ∧ _ from ⟨k1, k2, hA2, hB2⟩)
              clear k1 k2 k3 hA hB hA2 hB2
              go_wp2
              go_meet
              exact ⟨⟨w3.heap.size, w3.heap.size + 1, pa, pb, A, B, _, rfl, rfl, rfl, HK.out.1, HK.out.2.1, HK.out.2.2.1, HK.out.2.2.2, .inl ⟨k, rfl, hk, by rw [hAL, HTX.out], by rw [hBL, HTX.out], rfl⟩⟩, hall⟩
            · go_wp2_with fail
              refine (rope_splitM_bad p T f _ H5.out.tT (by rw [HTL.out]; omega) (by rw [HTL.out]; omega)).mono ?_
              rintro e w3 ⟨pa, pb, A, B, rfl, hA, hAL, hB, hBL, hb3⟩
              obtain ⟨k1, k2, k3⟩ := two_blks w3 (.pointer pa) (.pointer pb)
              have hall := below_then hb3 hb3.size k3
              have hA2 := hA.below k3; have hB2 := hB.below k3
              have HK := Lib.hid (show _ ∧ _ ∧ _ ∧ _ from ⟨k1, k2, hA2, hB2⟩)
              clear k1 k2 k3 hA hB hA2 hB2
              go_wp2
              go_meet
              exact ⟨⟨w3.heap.size, w3.heap.size + 1, pa, pb, A, B, _, rfl, rfl, rfl, HK.out.1, HK.out.2.1, HK.out.2.2.1, HK.out.2.2.2, .inr ⟨by omega, hAL, hBL, rfl⟩⟩, hall⟩
          case rest => as_aux_lemma =>
            obtain ⟨⟨b15, b16, pa, pb, A, B, ev, rfl, rfl, rfl, hX15, hX16, hTA, hTB, hSp⟩, hb5⟩ := hcut
            obtain ⟨V6, hVe⟩ : ∃ V, V = wc := ⟨_, rfl⟩
            subst hVe
            have H6 := Lib.hid (H5.out.below hb5)
            have hacc6 := below_then hacc5 hacc5.size hb5
            clear hb5
            go_upto_region 12 with fail
            go_cut [17] (fun s17 wx => (∃ bi : Bool, s17 = .bool bi ∧ (bi = true ↔ (0 ≤ f ∧ f ≤ (lm : Int)))) ∧ Below V6.heap.size V6 wx)
            case first => as_aux_lemma =>
              by_cases h1 : f < 0
              · go_wp2
                go_meet
                exact ⟨⟨false, rfl, by constructor <;> intro h <;> first | omega | cases h⟩, Below.refl _ _⟩
              · have h3 : 0 ≤ f := by omega
                by_cases h2 : f ≤ (lm : Int)
                · go_wp2
                  go_meet
                  exact ⟨⟨true, rfl, by constructor <;> intro h <;> first | exact ⟨h3, h2⟩ | rfl⟩, Below.refl _ _⟩
                · have h4 : (lm : Int) < f := by omega
                  go_wp2
                  go_meet
                  exact ⟨⟨false, rfl, by constructor <;> intro h <;> first | omega | cases h⟩, Below.refl _ _⟩
            case rest =>
              obtain ⟨⟨bi, rfl, hbi⟩, hb6⟩ := hcut
              obtain ⟨V7, hVe⟩ : ∃ V, V = wc := ⟨_, rfl⟩
              subst hVe
              have hX15 := hX15.below hb6 hX15.lt; have hX16 := hX16.below hb6 hX16.lt; have hTA := hTA.below hb6; have hTB := hTB.below hb6
              have H7 := Lib.hid (H6.out.below hb6)
              have hacc7 := below_then hacc6 hacc6.size hb6
              clear hb6
              go_upto_if 131 with fail
              go_cut [143] (fun s143 wx => Below V7.heap.size V7 wx)
              case first => as_aux_lemma =>
                rcases hSp with ⟨k, rfl, hk, hAX, hBX, rfl⟩ | ⟨hout, hAX, hBX, rfl⟩
                · obtain rfl : bi = true := hbi.2 (by omega)
                  go_upto_region 16 with fail
                  refine rope_r16 la lm lc k b15 b16 pa pb A B xs V7 H7.out.sL hlm hX15 hX16 hTA hTB hk hAX hBX ?_
                  intro x144 x145 x146 x147 x148 x149 x150 x151 x152 x153 x154 x155 x156 x157 x158 x159 x160 x161 x162 w5 hbw
                  dsimp only [Exit.then]
                  go_wp2
                  go_meet
                  exact hbw
                · obtain rfl : bi = false := by
                    cases bi with
                    | false => rfl
                    | true => have := hbi.1 rfl; omega
                  obtain ⟨a0, -⟩ := hX15.one
                  have hla : A.toL.length = 0 := by rw [hAX]; rfl
                  have hlb : B.toL.length = 0 := by rw [hBX]; rfl
                  have HRA := Lib.hid (rope_len pa A _ hTA)
                  rw [hla] at HRA
                  have HTB := Lib.hid hTB; have HLB := Lib.hid hlb
                  clear hbi hTA hTB hAX hBX hla hlb hout
                  go_wp2_with fail
                  refine HRA.out.mono ?_
                  rintro e w4 ⟨rfl, hb4⟩
                  have hX16' := hX16.below hb4 hX16.lt
                  obtain ⟨a1, -⟩ := hX16'.one
                  have HRB := Lib.hid (rope_len pb B _ (HTB.out.below hb4))
                  rw [HLB.out] at HRB
                  go_wp2_with fail
                  refine HRB.out.mono ?_
                  rintro e w5 ⟨rfl, hb5⟩
                  go_wp2
                  go_meet
                  exact below_then hb4 hb4.size hb5
              case rest =>
                have hb7 := hcut
                obtain ⟨V8, hVe⟩ : ∃ V, V = wc := ⟨_, rfl⟩
                subst hVe
                have H8 := Lib.hid (H7.out.below hb7)
                have hacc8 := below_then hacc7 hacc7.size hb7
                clear hb7 hX15 hX16 hTA hTB hSp hbi
                go_upto_region 18 with fail
                go_cut [18, 10] (fun s18 s10 wx => (∃ (b18 : Nat) (pj : Option Addr) (J : Tr) (ev : Int), s18 = .pointer (some ⟨b18, 0, none⟩) ∧ s10 = .int .i64 ev ∧ Blk wx b18 #[.pointer pj] 66 ∧ TreeR wx (.pointer pj) J ∧ ((4096 < lm + mm ∧ ev = 2) ∨ (lm + mm ≤ 4096 ∧ J.toL = xs ++ ys ∧ ev = 0))) ∧ Below V8.heap.size V8 wx)
                case first => as_aux_lemma =>
                  obtain ⟨c0, -⟩ := H8.out.b9.one
                  obtain ⟨d0, -⟩ := H8.out.b11.one
                  by_cases hbig : 4096 < lm + mm
                  · have HJ := Lib.hid (rope_joinM p q T O _ H8.out.tT H8.out.tO (by rw [HTL.out]; exact hlm) (by rw [HOL.out]; exact hmm))
                    rw [HTL.out, HOL.out, if_pos hbig, if_pos hbig] at HJ
                    go_wp2_with fail
                    refine HJ.out.mono ?_
                    rintro e w3 ⟨p3, T3, rfl, hT3, hL3, hb3⟩
                    have HK := Lib.hid (show _ ∧ _ from ⟨Blk.new w3 #[.pointer p3] 66, hT3.below (below1 w3 (.cells #[.pointer p3] 66))⟩)
                    have hall := hb3.alloc hb3.size (.cells #[.pointer p3] 66)
                    clear hT3 hb3
                    go_wp2
                    go_meet
                    exact ⟨⟨w3.heap.size, p3, T3, _, rfl, rfl, HK.out.1, HK.out.2, .inl ⟨hbig, rfl⟩⟩, hall⟩
                  · have HJ := Lib.hid (rope_joinM p q T O _ H8.out.tT H8.out.tO (by rw [HTL.out]; exact hlm) (by rw [HOL.out]; exact hmm))
                    rw [HTL.out, HOL.out, if_neg hbig, if_neg hbig] at HJ
                    go_wp2_with fail
                    refine HJ.out.mono ?_
                    rintro e w3 ⟨p3, T3, rfl, hT3, hL3, hb3⟩
                    have HK := Lib.hid (show _ ∧ _ from ⟨Blk.new w3 #[.pointer p3] 66, hT3.below (below1 w3 (.cells #[.pointer p3] 66))⟩)
                    have hall := hb3.alloc hb3.size (.cells #[.pointer p3] 66)
                    clear hT3 hb3
                    go_wp2
                    go_meet
                    exact ⟨⟨w3.heap.size, p3, T3, _, rfl, rfl, HK.out.1, HK.out.2, .inr ⟨by omega, by rw [hL3, HTX.out, HOX.out], rfl⟩⟩, hall⟩
                case rest =>
                  obtain ⟨⟨b18, pj, J, ev0, rfl, rfl, hX18, hTJ, hJ⟩, hb8⟩ := hcut
                  obtain ⟨V9, hVe⟩ : ∃ V, V = wc := ⟨_, rfl⟩
                  subst hVe
                  have H9 := Lib.hid (H8.out.below hb8)
                  have hacc9 := below_then hacc8 hacc8.size hb8
                  clear hb8
                  go_upto_region 19 with fail
                  go_cut [19] (fun s19 wx => (∃ bi : Bool, s19 = .bool bi ∧ (bi = true ↔ 4096 < lm + mm)) ∧ Below V9.heap.size V9 wx)
                  case first => as_aux_lemma =>
                    rcases hJ with ⟨h1, rfl⟩ | ⟨h1, -, rfl⟩
                    · have i1 : (4096 : Int) < (lm : Int) + (mm : Int) := by omega
                      go_wp2
                      go_meet
                      exact ⟨⟨true, rfl, by simp [h1]⟩, Below.refl _ _⟩
                    · have i1 : ¬ (4096 : Int) < (lm : Int) + (mm : Int) := by omega
                      go_wp2
                      go_meet
                      exact ⟨⟨false, rfl, by simp; exact h1⟩, Below.refl _ _⟩
                  case rest =>
                    obtain ⟨⟨bi, rfl, hbi⟩, hb9⟩ := hcut
                    obtain ⟨V10, hVe⟩ : ∃ V, V = wc := ⟨_, rfl⟩
                    subst hVe
                    have hX18 := hX18.below hb9 hX18.lt
                    have hTJ := hTJ.below hb9
                    have H10 := Lib.hid (H9.out.below hb9)
                    have hacc10 := below_then hacc9 hacc9.size hb9
                    clear hb9
                    go_upto_region 20 with fail
                    go_cut [193] (fun s193 wx => s193 = .bool false ∧ Below V10.heap.size V10 wx)
                    case first => as_aux_lemma =>
                      rcases hJ with ⟨h1, rfl⟩ | ⟨h1, hJX, rfl⟩
                      · obtain rfl : bi = true := hbi.2 h1
                        clear hbi h1
                        go_wp2
                        go_meet
                        exact ⟨rfl, Below.refl _ _⟩
                      · obtain rfl : bi = false := by
                          cases bi with
                          | false => rfl
                          | true => have := hbi.1 rfl; omega
                        obtain ⟨a0, -⟩ := hX18.one
                        have hjl : J.toL.length = lm + mm := by rw [hJX, List.length_append, HXL.out, HYL.out]
                        have HLI := Lib.hid (rope_list pj J _ hTJ (by rw [hjl]; omega))
                        have HJX := Lib.hid hJX
                        clear hbi hTJ hJX hjl
                        go_wp2_with fail
                        refine HLI.out.mono ?_
                        rintro e w4 ⟨v4, rfl, ho4, hb4⟩
                        obtain ⟨a4, n4, c4, rfl⟩ := ho4.form
                        rw [HJX.out] at ho4
                        obtain ⟨l1, l2, l3, l4, l5⟩ := (H10.out.sL.below hb4).get
                        obtain ⟨m1, m2, m3, m4, m5⟩ := (H10.out.sM.below hb4).get
                        have hcat := Lib.hid (catIn2 w4 22 lc mc l4 m4 l1 m1 (by omega) (by omega) l5 m5)
                        have ho5 := ho4.alloc (.cells #[.slice la lm lc, .slice ma mm mc] 22)
                        have K1 := Lib.hid ho4.get.1
                        have hn4 : n4 ≤ 9223372036854775807 := by have := K1.out; rw [List.length_append, HXL.out, HYL.out] at this; omega
                        have hb5 := hb4.alloc hb4.size (.cells #[.slice la lm lc, .slice ma mm mc] 22)
                        clear l1 l2 l3 l4 l5 m1 m2 m3 m4 m5 ho4
                        go_wp2_with fail
                        refine (slices_concat w4.heap.size 2 _ _ _ _ _ hcat.out (by decide)).mono ?_
                        rintro e w6 ⟨v6, rfl, ho6, hb6⟩
                        obtain ⟨a6, n6, c6, rfl⟩ := ho6.form
                        rw [joinX2] at ho6
                        have ho7 := ho5.kept hb6
                        have hbw := below_then hb5 hb5.size hb6
                        go_wp2_with fail
                        refine (slices_same a4 a6 n4 n6 c4 c6 (xs ++ ys) _ ho7.get.2.1 ho6.get.2.1 K1.out ho6.get.1 hn4).mono ?_
                        rintro e w7 ⟨rfl, nq, rfl⟩
                        go_wp2
                        go_meet
                        exact ⟨rfl, below_drewN hbw nq⟩
                    case rest => as_aux_lemma =>
                      obtain ⟨rfl, hb10⟩ := hcut
                      obtain ⟨V11, hVe⟩ : ∃ V, V = wc := ⟨_, rfl⟩
                      subst hVe
                      have H11 := Lib.hid (H10.out.below hb10)
                      have hacc11 := below_then hacc10 hacc10.size hb10
                      clear hb10 hX18 hTJ hJ hbi
                      go_upto_region 22 with fail
                      go_cut [20, 10] (fun s20 s10 wx => (∃ (b20 : Nat) (ps : Option Addr) (SS : Tr) (ev : Int), s20 = .pointer (some ⟨b20, 0, none⟩) ∧ s10 = .int .i64 ev ∧ Blk wx b20 #[.pointer ps] 66 ∧ TreeR wx (.pointer ps) SS ∧ ((sliceBad lm f t ∧ SS.toL = [] ∧ ev = 1) ∨ (∃ i j : Nat, f = (i : Int) ∧ t = (j : Int) ∧ i ≤ j ∧ j ≤ lm ∧ SS.toL = (xs.take j).drop i ∧ ev = 0))) ∧ Below V11.heap.size V11 wx)
                      case first => as_aux_lemma =>
                        obtain ⟨c0, -⟩ := H11.out.b9.one
                        obtain ⟨d0, -⟩ := H11.out.b11.one
                        by_cases hbad : sliceBad lm f t
                        · have HS := Lib.hid (rope_slice_bad p T f t _ H11.out.tT (by rw [HTL.out]; omega) (by rw [HTL.out]; exact hbad))
                          have HBAD := Lib.hid hbad
                          clear hbad
                          go_wp2_with fail
                          refine HS.out.mono ?_
                          rintro e w3 ⟨p3, T3, rfl, hT3, hL3, hb3⟩
                          have HK := Lib.hid (show _ ∧ _ from ⟨Blk.new w3 #[.pointer p3] 66, hT3.below (below1 w3 (.cells #[.pointer p3] 66))⟩)
                          have hall := hb3.alloc hb3.size (.cells #[.pointer p3] 66)
                          clear hT3 hb3
                          go_wp2
                          go_meet
                          exact ⟨⟨w3.heap.size, p3, T3, _, rfl, rfl, HK.out.1, HK.out.2, .inl ⟨HBAD.out, hL3, rfl⟩⟩, hall⟩
                        · have hb' := hbad
                          unfold sliceBad at hb'
                          obtain ⟨i, rfl⟩ := Int.eq_ofNat_of_zero_le (show 0 ≤ f by omega)
                          obtain ⟨j, rfl⟩ := Int.eq_ofNat_of_zero_le (show 0 ≤ t by omega)
                          have hij : i ≤ j := by omega
                          have hjl : j ≤ lm := by omega
                          have HS := Lib.hid (rope_slice p T i j _ H11.out.tT (by rw [HTL.out]; omega) hij (by rw [HTL.out]; exact hjl))
                          rw [HTX.out] at HS
                          clear hbad hb'
                          go_wp2_with fail
                          refine HS.out.mono ?_
                          rintro e w3 ⟨p3, T3, rfl, hT3, hL3, hb3⟩
                          have HK := Lib.hid (show _ ∧ _ from ⟨Blk.new w3 #[.pointer p3] 66, hT3.below (below1 w3 (.cells #[.pointer p3] 66))⟩)
                          have hall := hb3.alloc hb3.size (.cells #[.pointer p3] 66)
                          clear hT3 hb3
                          go_wp2
                          go_meet
                          exact ⟨⟨w3.heap.size, p3, T3, _, rfl, rfl, HK.out.1, HK.out.2, .inr ⟨i, j, rfl, rfl, hij, hjl, hL3, rfl⟩⟩, hall⟩
                      case rest =>
                        obtain ⟨⟨b20, ps, SS, ev1, rfl, rfl, hX20, hTS, hSS⟩, hb11⟩ := hcut
                        obtain ⟨V12, hVe⟩ : ∃ V, V = wc := ⟨_, rfl⟩
                        subst hVe
                        have H12 := Lib.hid (H11.out.below hb11)
                        have hacc12 := below_then hacc11 hacc11.size hb11
                        clear hb11
                        go_upto_region 23 with fail
                        go_cut [21, 12] (fun s21 s12 wx => (∃ (b21 : Nat) (pp : Option Addr) (PP : Tr) (ev2 : Int), s21 = .pointer (some ⟨b21, 0, none⟩) ∧ s12 = .int .i64 ev2 ∧ Blk wx b21 #[.pointer pp] 66 ∧ TreeR wx (.pointer pp) PP ∧ ((sliceBad lm f t ∧ PP.toL = [] ∧ ev2 = 1) ∨ (∃ i j : Nat, f = (i : Int) ∧ t = (j : Int) ∧ i ≤ j ∧ j ≤ lm ∧ PP.toL = putL xs ys i j ∧ ev2 = putE xs ys i j))) ∧ Below V12.heap.size V12 wx)
                        case first => as_aux_lemma =>
                          obtain ⟨c0, -⟩ := H12.out.b9.one
                          obtain ⟨d0, -⟩ := H12.out.b11.one
                          by_cases hbad : sliceBad lm f t
                          · have HS := Lib.hid (rope_put_bad p q T f t _ H12.out.tT (by rw [HTL.out]; omega) (by rw [HTL.out]; exact hbad))
                            have HBAD := Lib.hid hbad
                            clear hbad
                            go_wp2_with fail
                            refine HS.out.mono ?_
                            rintro e w3 ⟨p3, T3, rfl, hT3, hL3, hb3⟩
                            have HK := Lib.hid (show _ ∧ _ from ⟨Blk.new w3 #[.pointer p3] 66, hT3.below (below1 w3 (.cells #[.pointer p3] 66))⟩)
                            have hall := hb3.alloc hb3.size (.cells #[.pointer p3] 66)
                            clear hT3 hb3
                            go_wp2
                            go_meet
                            exact ⟨⟨w3.heap.size, p3, T3, _, rfl, rfl, HK.out.1, HK.out.2, .inl ⟨HBAD.out, hL3, rfl⟩⟩, hall⟩
                          · have hb' := hbad
                            unfold sliceBad at hb'
                            obtain ⟨i, rfl⟩ := Int.eq_ofNat_of_zero_le (show 0 ≤ f by omega)
                            obtain ⟨j, rfl⟩ := Int.eq_ofNat_of_zero_le (show 0 ≤ t by omega)
                            have hij : i ≤ j := by omega
                            have hjl : j ≤ lm := by omega
                            have HS := Lib.hid (rope_put p q T O i j _ H12.out.tT H12.out.tO (by rw [HTL.out]; exact hlm) (by rw [HOL.out]; exact hmm) hij (by rw [HTL.out]; exact hjl))
                            rw [HTX.out, HOX.out] at HS
                            clear hbad hb'
                            go_wp2_with fail
                            refine HS.out.mono ?_
                            rintro e w3 ⟨p3, T3, rfl, hT3, hL3, hb3⟩
                            have HK := Lib.hid (show _ ∧ _ from ⟨Blk.new w3 #[.pointer p3] 66, hT3.below (below1 w3 (.cells #[.pointer p3] 66))⟩)
                            have hall := hb3.alloc hb3.size (.cells #[.pointer p3] 66)
                            clear hT3 hb3
                            go_wp2
                            go_meet
                            exact ⟨⟨w3.heap.size, p3, T3, _, rfl, rfl, HK.out.1, HK.out.2, .inr ⟨i, j, rfl, rfl, hij, hjl, hL3, rfl⟩⟩, hall⟩
                        case rest =>
                          obtain ⟨⟨b21, pp, PP, ev2, rfl, rfl, hX21, hTP, hPP⟩, hb12⟩ := hcut
                          obtain ⟨V13, hVe⟩ : ∃ V, V = wc := ⟨_, rfl⟩
                          subst hVe
                          have hX20 := hX20.below hb12 hX20.lt
                          have hTS := hTS.below hb12
                          have H13 := Lib.hid (H12.out.below hb12)
                          have hacc13 := below_then hacc12 hacc12.size hb12
                          clear hb12
                          go_upto_region 24 with fail
                          go_cut [221] (fun s221 wx => (∃ bi : Bool, s221 = .bool bi ∧ (bi = true ↔ sliceBad lm f t)) ∧ Below V13.heap.size V13 wx)
                          case first => as_aux_lemma =>
                            by_cases h1 : f < 0
                            · go_wp2
                              go_meet
                              exact ⟨⟨true, rfl, by simp; exact .inl h1⟩, Below.refl _ _⟩
                            · by_cases h2 : t < f
                              · go_wp2
                                go_meet
                                exact ⟨⟨true, rfl, by simp; exact .inr (.inl h2)⟩, Below.refl _ _⟩
                              · by_cases h3 : (lm : Int) < t
                                · go_wp2
                                  go_meet
                                  exact ⟨⟨true, rfl, by simp; exact .inr (.inr h3)⟩, Below.refl _ _⟩
                                · go_wp2
                                  go_meet
                                  exact ⟨⟨false, rfl, by simp [sliceBad]; omega⟩, Below.refl _ _⟩
                          case rest =>
                            obtain ⟨⟨bi, rfl, hbi⟩, hb13⟩ := hcut
                            obtain ⟨V14, hVe⟩ : ∃ V, V = wc := ⟨_, rfl⟩
                            subst hVe
                            have hX20 := hX20.below hb13 hX20.lt
                            have hX21 := hX21.below hb13 hX21.lt
                            have hTS := hTS.below hb13
                            have hTP := hTP.below hb13
                            have H14 := Lib.hid (H13.out.below hb13)
                            have hacc14 := below_then hacc13 hacc13.size hb13
                            clear hb13
                            rcases hSS with ⟨hbad, hSX, rfl⟩ | ⟨i, j, rfl, rfl, hij, hjl, hSX, rfl⟩
                            · obtain rfl : bi = true := hbi.2 hbad
                              rcases hPP with ⟨-, hPX, rfl⟩ | ⟨i, j, rfl, rfl, hij, hjl, -, -⟩
                              · obtain ⟨a0, -⟩ := hX20.one
                                have hs0 : SS.toL.length = 0 := by rw [hSX]; rfl
                                have hp0 : PP.toL.length = 0 := by rw [hPX]; rfl
                                have HRS := Lib.hid (rope_len ps SS _ hTS)
                                rw [hs0] at HRS
                                have HTP := Lib.hid hTP; have HP0 := Lib.hid hp0
                                clear hbi hbad hSX hPX hs0 hp0 hTS hTP
                                go_wp2_with fail
                                refine HRS.out.mono ?_
                                rintro e w4 ⟨rfl, hb4⟩
                                have hX21' := hX21.below hb4 hX21.lt
                                obtain ⟨a1, -⟩ := hX21'.one
                                have HRP := Lib.hid (rope_len pp PP _ (HTP.out.below hb4))
                                rw [HP0.out] at HRP
                                go_wp2_with fail
                                refine HRP.out.mono ?_
                                rintro e w5 ⟨rfl, hb5⟩
                                go_wp2
                                go_ret
                                exact ⟨ret1_bool (by simp), below_then hacc14 hacc14.size (below_then hb4 hb4.size hb5)⟩
                              · unfold sliceBad at hbad; omega
                            · obtain rfl : bi = false := by
                                cases bi with
                                | false => rfl
                                | true => have := hbi.1 rfl; unfold sliceBad at this; omega
                              obtain ⟨hPX, rfl⟩ : PP.toL = putL xs ys i j ∧ ev2 = putE xs ys i j := by
                                rcases hPP with ⟨hb', -, -⟩ | ⟨i', j', hi', hj', -, -, h1, h2⟩
                                · unfold sliceBad at hb'; omega
                                · obtain rfl : i = i' := by omega
                                  obtain rfl : j = j' := by omega
                                  exact ⟨h1, h2⟩
                              clear hbi hPP
                              go_upto_region 26 with fail
                              go_cut [249] (fun s249 wx => s249 = .bool false ∧ Below V14.heap.size V14 wx)
                              case first => as_aux_lemma =>
                                refine rope_r26 la ma lm lc mm mc i j b20 ps SS xs V14 H14.out.sL hlm hX20 hTS hij hjl hSX ?_
                                intro x238 x239 x240 x241 x242 x243 x244 x245 x246 x247 x248 w5 hbw
                                dsimp only [Exit.then]
                                go_wp2
                                go_meet
                                exact ⟨rfl, hbw⟩
                              case rest =>
                                obtain ⟨rfl, hb14⟩ := hcut
                                obtain ⟨V15, hVe⟩ : ∃ V, V = wc := ⟨_, rfl⟩
                                subst hVe
                                have hX21 := hX21.below hb14 hX21.lt; have hTP := hTP.below hb14
                                have H15 := Lib.hid (H14.out.below hb14)
                                have hacc15 := below_then hacc14 hacc14.size hb14
                                clear hb14 hX20 hTS hSX
                                go_upto_region 28 with fail
                                by_cases hbig : 4096 < lm - (j - i) + mm
                                · have i1 : (4096 : Int) < (lm : Int) - ((j : Int) - (i : Int)) + (mm : Int) := by omega
                                  have hE : putE xs ys i j = 2 := by unfold putE; rw [HXL.out, HYL.out, if_pos hbig]
                                  have hP0 : PP.toL.length = 0 := by rw [hPX]; unfold putL; rw [HXL.out, HYL.out, if_pos hbig]; rfl
                                  rw [hE]
                                  obtain ⟨a0, -⟩ := hX21.one
                                  have HRP := Lib.hid (rope_len pp PP _ hTP)
                                  rw [hP0] at HRP
                                  clear hE hP0 hPX hTP
                                  go_wp2_with fail
                                  refine HRP.out.mono ?_
                                  rintro e w4 ⟨rfl, hb4⟩
                                  go_wp2
                                  go_ret
                                  exact ⟨ret1_bool (by simp), below_then hacc15 hacc15.size hb4⟩
                                · have i1 : ¬ (4096 : Int) < (lm : Int) - ((j : Int) - (i : Int)) + (mm : Int) := by omega
                                  have hE : putE xs ys i j = 0 := by unfold putE; rw [HXL.out, HYL.out, if_neg hbig]
                                  have hPL : PP.toL = xs.take i ++ ys ++ xs.drop j := by rw [hPX]; unfold putL; rw [HXL.out, HYL.out, if_neg hbig]
                                  rw [hE]
                                  obtain ⟨a0, -⟩ := hX21.one
                                  go_upto_region 30 with fail
                                  refine rope_r30 la ma lm lc mm mc i j b21 pp PP xs ys V15 H15.out.sL H15.out.sM hlm hmm hX21 hTP hij hjl hPL ?_
                                  intro x267 x268 x269 x270 x271 x272 x273 x274 x275 x276 x277 x278 x279 x280 x281 x282 w5 hbw
                                  dsimp only [Exit.then]
                                  go_wp2
                                  go_ret
                                  exact ⟨rfl, below_then hacc15 hacc15.size hbw⟩

end Go.Proofs.Ytmipnikhgihcpaa

