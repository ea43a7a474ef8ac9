/- The walk of UtfSays. -/
import Derived.Test.YtmipnikhgihcpaaUtf7
namespace Go.Proofs.Ytmipnikhgihcpaa
open Go.RowKit
set_option linter.unusedVariables false
set_option linter.unusedSimpArgs false

theorem allF_nil {s : ByteArray} : ∀ (f k : Nat) (out : List Int), (allF s f k out).e ≠ 0 → (allF s f k out).l = [] := by
  intro f
  induction f with
  | zero => intro k out h; exact absurd rfl h
  | succ f ih =>
    intro k out h
    rw [allF] at h ⊢
    split
    · rename_i h1
      rw [if_pos h1] at h
      split
      · rename_i h2
        rw [if_pos h2] at h
        exact ih _ _ h
      · rfl
    · rename_i h1
      rw [if_neg h1] at h
      exact absurd rfl h
theorem cntS_eq (s : ByteArray) : cntS s = (allS s).l.length := by
  unfold cntS
  split
  · rfl
  · rename_i h
    unfold allS at h ⊢
    rw [allF_nil _ _ _ h]; rfl
theorem runes_snoc (l : List Int) (c : Int) : runesBytes (l ++ [c]) = runesBytes l ++ Utf8.encode c := by
  unfold runesBytes
  rw [List.foldl_append]; rfl

set_option maxRecDepth 100000 in
set_option maxHeartbeats 8000000 in
theorem utfSays_walk (c : Int) (s : ByteArray) (a : Option Addr) (n cc : Nat) (l : List Int) (w : World) (hs : s.size ≤ 1048576) (hx : Ints w a l) (hn : l.length = n) (hl : n ≤ 1048576) :
    Calls Try.prog 3 #[.int .i64 c, .string s, .slice a n cc] w fun e w' => e = .returned (.bool true) ∧ Below w.heap.size w w' := by
  have HN := Lib.hid hn; clear hn
  have HX := Lib.hid hx; clear hx
  obtain ⟨z, hz⟩ : ∃ z, scaB c = z := ⟨_, rfl⟩
  have HP := Lib.hid (utf_put c)
  have HC := Lib.hid (ref_char c)
  have HR := Lib.hid (ref_put c)
  have HV : Hid (putV c = if z = true then Utf8.encode c else ⟨#[]⟩) := Lib.hid (by unfold putV; rw [hz])
  have HE : Hid (putE c = if z = true then 0 else 1) := Lib.hid (by unfold putE; rw [hz])
  rw [hz] at HC HR
  rw [HV.out, HE.out] at HP
  generalize Utf8.encode c = ba at *
  clear hz HV HE
  rcases z with _ | _
  · go_enter Try.func3, Try.ntmps3
    go_wp2_with fail
    refine (HP.out _).mono ?_
    rintro e w1 ⟨rfl, rfl⟩
    go_wp2_with fail
    refine (HC.out _).mono ?_
    rintro e w1 ⟨rfl, rfl⟩
    go_upto_region 7 with fail
    have hb := Below.refl w.heap.size w
    clear HP HC HR
    have HG1 := Lib.hid (utf_get s); have HG2 := Lib.hid (ref_get s)
    have HA1 := Lib.hid (fun w => utf_all s w hs); have HA2 := Lib.hid (fun w => ref_all s w hs)
    have HCT := Lib.hid (fun w => utf_count s w hs)
    unfold CntPost at HCT
    obtain ⟨cn, hcn0⟩ : ∃ cn, cntS s = cn := ⟨_, rfl⟩
    have HCN : Hid (cn = (allS s).l.length) := Lib.hid (by rw [← hcn0]; exact cntS_eq s)
    rw [hcn0] at HCT
    clear hcn0
    generalize gS s = g at *
    generalize allS s = gg at *
    obtain ⟨L, at1, e1⟩ := gg
    simp only at HCN HCT
    obtain ⟨gc, gn, ge⟩ := g
    go_wp2_with fail
    refine (HG1.out _).mono ?_
    rintro e w1 ⟨rfl, hb1⟩
    have hb := below_then hb hb.size hb1
    go_wp2_with fail
    refine (HG2.out _).mono ?_
    rintro e w2 ⟨rfl, hb2⟩
    have hb := below_then hb hb.size hb2
    go_wp2_with fail
    refine (HA1.out _).mono ?_
    rintro e w3 ⟨v3, rfl, ho1, hb3⟩
    have hb := below_then hb hb.size hb3
    go_wp2_with fail
    refine (HA2.out _).mono ?_
    rintro e w4 ⟨v4, rfl, ho2, hb4⟩
    have ho1 := ho1.kept hb4
    have hb := below_then hb hb.size hb4
    go_wp2_with fail
    refine (HCT.out _).mono ?_
    rintro e w5 ⟨rfl, hb5⟩
    have ho1 := ho1.kept hb5; have ho2 := ho2.kept hb5
    have hb := below_then hb hb.size hb5
    have hx5 := HX.out.below hb
    go_wp2_with fail
    refine (utf_text a n cc l _ hx5 HN.out hl).mono ?_
    rintro e w6 ⟨rfl, hb6⟩
    have ho1 := ho1.kept hb6; have ho2 := ho2.kept hb6
    have hb := below_then hb hb.size hb6
    clear hb1 hb2 hb3 hb4 hb5 hb6 hx5 HG1 HG2 HA1 HA2 HCT
    go_upto_region 15 with fail
    go_loopw [87, 25, 26] (fun i wv bv wr => ∃ k : Nat, i = .int .i64 (k : Int) ∧ k ≤ n ∧ wv = .string (runesBytes (l.take k)) ∧ bv = .int .i64 0 ∧ (∀ j, j < k → scaB (ix l j) = true) ∧ Own 3 w2.heap.size wr v3 L ∧ Own 3 w3.heap.size wr v4 L ∧ Below w.heap.size w wr) (fun i _ _ _ => n - (intOf i).toNat)
    case atStart => exact ⟨0, rfl, by omega, rfl, rfl, fun j hj => by omega, ho1, ho2, hb⟩
    case round =>
      obtain ⟨k, rfl, hk, rfl, rfl, hsc, ho1, ho2, hb⟩ := hrel
      have HSC := Lib.hid hsc
      clear hsc
      by_cases hlt : k < n
      · have i1 : (k : Int) < (n : Int) := by omega
        have hkl : k < l.length := by rw [HN.out]; exact hlt
        obtain ⟨bb, oo, rfl, hc1⟩ := (HX.out.below hb).at (k := k) hkl
        have e1 := hc1 k hkl
        have HT := Lib.hid (take_ix hkl)
        have HS := Lib.hid (ref_char (ix l k))
        have HPT := Lib.hid (ref_put (ix l k))
        have HNO := Lib.hid (fun h => okL_no hkl h)
        obtain ⟨z2, hz⟩ : ∃ z, scaB (ix l k) = z := ⟨_, rfl⟩
        have HZ := Lib.hid hz
        rw [hz] at HS HPT
        have HSZ : Hid ((runesBytes (l.take k)).size ≤ 4194304) := Lib.hid (by
          have := runesBytes_size_le (l.take k)
          rw [List.length_take] at this
          omega)
        clear hc1 hkl hz
        rcases z2 with _ | _
        · have HTX : Hid (txtB l = ⟨#[]⟩ ∧ txtE l = 1) := Lib.hid (by unfold txtB txtE; rw [HNO.out HZ.out]; exact ⟨rfl, rfl⟩)
          rw [HTX.out.1, HTX.out.2]
          go_wp2_with fail
          refine (HS.out _).mono ?_
          rintro e w7 ⟨rfl, rfl⟩
          obtain ⟨a1, n1, k1, rfl⟩ := ho1.form
          obtain ⟨a2, n2, k2, rfl⟩ := ho2.form
          have hg1 := ho1.get; have hg2 := ho2.get
          have HGG := Lib.hid (show _ ∧ _ from ⟨hg1, hg2⟩)
          have hnn : n1 ≤ 9223372036854775807 := by
            rcases ho1.2 with ⟨h1, h2⟩ | ⟨g2, cap2, cur2, h1, _, _, _, hm, _⟩
            · simp only [Value.slice.injEq] at h1; omega
            · simp only [Value.slice.injEq] at h1; unfold maxLen at hm; omega
          have hcn : (cn : Int) = (n2 : Int) := by rw [HCN.out, ← HGG.out.2.1]
          clear ho1 ho2 hg1 hg2
          go_wp2_with fail
          refine (slices_same a1 a2 n1 n2 k1 k2 L _ HGG.out.1.2.1 HGG.out.2.2.1 HGG.out.1.1 HGG.out.2.1 hnn).mono ?_
          rintro e w9 ⟨rfl, q, rfl⟩
          go_wp2
          go_ret
          exact ⟨rfl, below_drewN hb q⟩
        · have HSC2 := Lib.hid (show ∀ j, j < k + 1 → scaB (ix l j) = true from fun j hj => by
            rcases Nat.lt_succ_iff_lt_or_eq.1 hj with h | rfl
            · exact HSC.out j h
            · exact HZ.out)
          have hes := encode_size_le (ix l k)
          have HRS := Lib.hid (runes_snoc (l.take k) (ix l k))
          have hrs := HSZ.out
          generalize runesBytes (l.take k) = rb at *
          generalize Utf8.encode (ix l k) = eb at *
          go_wp2_with fail
          refine (HS.out _).mono ?_
          rintro e w7 ⟨rfl, rfl⟩
          go_wp2_with fail
          refine (HPT.out (by trivial) _).mono ?_
          rintro e w8 ⟨rfl, hb8⟩
          go_wp2
          go_roundw
          case rel => exact ⟨k + 1, by go_num, by omega, by rw [HT.out, HRS.out], rfl, HSC2.out, ho1.kept hb8, ho2.kept hb8, below_then hb hb.size hb8⟩
          case measure => simp [intOf]; omega
      · obtain rfl : k = n := by omega
        have HT := Lib.hid (show l.take k = l by rw [← HN.out]; exact List.take_length)
        have HTX : Hid (txtB l = runesBytes l ∧ txtE l = 0) := Lib.hid (by
          unfold txtB txtE
          rw [okL_yes (l := l) (fun j hj => HSC.out j (by rw [HN.out] at hj; exact hj))]
          exact ⟨rfl, rfl⟩)
        rw [HTX.out.1, HTX.out.2, HT.out]
        generalize runesBytes l = rb at *
        obtain ⟨a1, n1, k1, rfl⟩ := ho1.form
        obtain ⟨a2, n2, k2, rfl⟩ := ho2.form
        have hg1 := ho1.get; have hg2 := ho2.get
        have HGG := Lib.hid (show _ ∧ _ from ⟨hg1, hg2⟩)
        have hnn : n1 ≤ 9223372036854775807 := by
          rcases ho1.2 with ⟨h1, h2⟩ | ⟨g2, cap2, cur2, h1, _, _, _, hm, _⟩
          · simp only [Value.slice.injEq] at h1; omega
          · simp only [Value.slice.injEq] at h1; unfold maxLen at hm; omega
        have hcn : (cn : Int) = (n2 : Int) := by rw [HCN.out, ← HGG.out.2.1]
        clear ho1 ho2 hg1 hg2
        go_wp2_with fail
        refine (slices_same a1 a2 n1 n2 k1 k2 L _ HGG.out.1.2.1 HGG.out.2.2.1 HGG.out.1.1 HGG.out.2.1 hnn).mono ?_
        rintro e w9 ⟨rfl, q, rfl⟩
        go_wp2
        go_ret
        exact ⟨rfl, below_drewN hb q⟩
  · go_enter Try.func3, Try.ntmps3
    go_wp2_with fail
    refine (HP.out _).mono ?_
    rintro e w1 ⟨rfl, rfl⟩
    go_wp2_with fail
    refine (HC.out _).mono ?_
    rintro e w1 ⟨rfl, rfl⟩
    go_wp2_with fail
    refine (HR.out (by trivial) _).mono ?_
    rintro e w1 ⟨rfl, hb⟩
    go_upto_region 7 with fail
    clear HP HC HR
    have HG1 := Lib.hid (utf_get s); have HG2 := Lib.hid (ref_get s)
    have HA1 := Lib.hid (fun w => utf_all s w hs); have HA2 := Lib.hid (fun w => ref_all s w hs)
    have HCT := Lib.hid (fun w => utf_count s w hs)
    unfold CntPost at HCT
    obtain ⟨cn, hcn0⟩ : ∃ cn, cntS s = cn := ⟨_, rfl⟩
    have HCN : Hid (cn = (allS s).l.length) := Lib.hid (by rw [← hcn0]; exact cntS_eq s)
    rw [hcn0] at HCT
    clear hcn0
    generalize gS s = g at *
    generalize allS s = gg at *
    obtain ⟨L, at1, e1⟩ := gg
    simp only at HCN HCT
    obtain ⟨gc, gn, ge⟩ := g
    go_wp2_with fail
    refine (HG1.out _).mono ?_
    rintro e w1 ⟨rfl, hb1⟩
    have hb := below_then hb hb.size hb1
    go_wp2_with fail
    refine (HG2.out _).mono ?_
    rintro e w2 ⟨rfl, hb2⟩
    have hb := below_then hb hb.size hb2
    go_wp2_with fail
    refine (HA1.out _).mono ?_
    rintro e w3 ⟨v3, rfl, ho1, hb3⟩
    have hb := below_then hb hb.size hb3
    go_wp2_with fail
    refine (HA2.out _).mono ?_
    rintro e w4 ⟨v4, rfl, ho2, hb4⟩
    have ho1 := ho1.kept hb4
    have hb := below_then hb hb.size hb4
    go_wp2_with fail
    refine (HCT.out _).mono ?_
    rintro e w5 ⟨rfl, hb5⟩
    have ho1 := ho1.kept hb5; have ho2 := ho2.kept hb5
    have hb := below_then hb hb.size hb5
    have hx5 := HX.out.below hb
    go_wp2_with fail
    refine (utf_text a n cc l _ hx5 HN.out hl).mono ?_
    rintro e w6 ⟨rfl, hb6⟩
    have ho1 := ho1.kept hb6; have ho2 := ho2.kept hb6
    have hb := below_then hb hb.size hb6
    clear hb1 hb2 hb3 hb4 hb5 hb6 hx5 HG1 HG2 HA1 HA2 HCT
    go_upto_region 15 with fail
    go_loopw [87, 25, 26] (fun i wv bv wr => ∃ k : Nat, i = .int .i64 (k : Int) ∧ k ≤ n ∧ wv = .string (runesBytes (l.take k)) ∧ bv = .int .i64 0 ∧ (∀ j, j < k → scaB (ix l j) = true) ∧ Own 3 w2.heap.size wr v3 L ∧ Own 3 w3.heap.size wr v4 L ∧ Below w.heap.size w wr) (fun i _ _ _ => n - (intOf i).toNat)
    case atStart => exact ⟨0, rfl, by omega, rfl, rfl, fun j hj => by omega, ho1, ho2, hb⟩
    case round =>
      obtain ⟨k, rfl, hk, rfl, rfl, hsc, ho1, ho2, hb⟩ := hrel
      have HSC := Lib.hid hsc
      clear hsc
      by_cases hlt : k < n
      · have i1 : (k : Int) < (n : Int) := by omega
        have hkl : k < l.length := by rw [HN.out]; exact hlt
        obtain ⟨bb, oo, rfl, hc1⟩ := (HX.out.below hb).at (k := k) hkl
        have e1 := hc1 k hkl
        have HT := Lib.hid (take_ix hkl)
        have HS := Lib.hid (ref_char (ix l k))
        have HPT := Lib.hid (ref_put (ix l k))
        have HNO := Lib.hid (fun h => okL_no hkl h)
        obtain ⟨z2, hz⟩ : ∃ z, scaB (ix l k) = z := ⟨_, rfl⟩
        have HZ := Lib.hid hz
        rw [hz] at HS HPT
        have HSZ : Hid ((runesBytes (l.take k)).size ≤ 4194304) := Lib.hid (by
          have := runesBytes_size_le (l.take k)
          rw [List.length_take] at this
          omega)
        clear hc1 hkl hz
        rcases z2 with _ | _
        · have HTX : Hid (txtB l = ⟨#[]⟩ ∧ txtE l = 1) := Lib.hid (by unfold txtB txtE; rw [HNO.out HZ.out]; exact ⟨rfl, rfl⟩)
          rw [HTX.out.1, HTX.out.2]
          go_wp2_with fail
          refine (HS.out _).mono ?_
          rintro e w7 ⟨rfl, rfl⟩
          obtain ⟨a1, n1, k1, rfl⟩ := ho1.form
          obtain ⟨a2, n2, k2, rfl⟩ := ho2.form
          have hg1 := ho1.get; have hg2 := ho2.get
          have HGG := Lib.hid (show _ ∧ _ from ⟨hg1, hg2⟩)
          have hnn : n1 ≤ 9223372036854775807 := by
            rcases ho1.2 with ⟨h1, h2⟩ | ⟨g2, cap2, cur2, h1, _, _, _, hm, _⟩
            · simp only [Value.slice.injEq] at h1; omega
            · simp only [Value.slice.injEq] at h1; unfold maxLen at hm; omega
          have hcn : (cn : Int) = (n2 : Int) := by rw [HCN.out, ← HGG.out.2.1]
          clear ho1 ho2 hg1 hg2
          go_wp2_with fail
          refine (slices_same a1 a2 n1 n2 k1 k2 L _ HGG.out.1.2.1 HGG.out.2.2.1 HGG.out.1.1 HGG.out.2.1 hnn).mono ?_
          rintro e w9 ⟨rfl, q, rfl⟩
          go_wp2
          go_ret
          exact ⟨rfl, below_drewN hb q⟩
        · have HSC2 := Lib.hid (show ∀ j, j < k + 1 → scaB (ix l j) = true from fun j hj => by
            rcases Nat.lt_succ_iff_lt_or_eq.1 hj with h | rfl
            · exact HSC.out j h
            · exact HZ.out)
          have hes := encode_size_le (ix l k)
          have HRS := Lib.hid (runes_snoc (l.take k) (ix l k))
          have hrs := HSZ.out
          generalize runesBytes (l.take k) = rb at *
          generalize Utf8.encode (ix l k) = eb at *
          go_wp2_with fail
          refine (HS.out _).mono ?_
          rintro e w7 ⟨rfl, rfl⟩
          go_wp2_with fail
          refine (HPT.out (by trivial) _).mono ?_
          rintro e w8 ⟨rfl, hb8⟩
          go_wp2
          go_roundw
          case rel => exact ⟨k + 1, by go_num, by omega, by rw [HT.out, HRS.out], rfl, HSC2.out, ho1.kept hb8, ho2.kept hb8, below_then hb hb.size hb8⟩
          case measure => simp [intOf]; omega
      · obtain rfl : k = n := by omega
        have HT := Lib.hid (show l.take k = l by rw [← HN.out]; exact List.take_length)
        have HTX : Hid (txtB l = runesBytes l ∧ txtE l = 0) := Lib.hid (by
          unfold txtB txtE
          rw [okL_yes (l := l) (fun j hj => HSC.out j (by rw [HN.out] at hj; exact hj))]
          exact ⟨rfl, rfl⟩)
        rw [HTX.out.1, HTX.out.2, HT.out]
        generalize runesBytes l = rb at *
        obtain ⟨a1, n1, k1, rfl⟩ := ho1.form
        obtain ⟨a2, n2, k2, rfl⟩ := ho2.form
        have hg1 := ho1.get; have hg2 := ho2.get
        have HGG := Lib.hid (show _ ∧ _ from ⟨hg1, hg2⟩)
        have hnn : n1 ≤ 9223372036854775807 := by
          rcases ho1.2 with ⟨h1, h2⟩ | ⟨g2, cap2, cur2, h1, _, _, _, hm, _⟩
          · simp only [Value.slice.injEq] at h1; omega
          · simp only [Value.slice.injEq] at h1; unfold maxLen at hm; omega
        have hcn : (cn : Int) = (n2 : Int) := by rw [HCN.out, ← HGG.out.2.1]
        clear ho1 ho2 hg1 hg2
        go_wp2_with fail
        refine (slices_same a1 a2 n1 n2 k1 k2 L _ HGG.out.1.2.1 HGG.out.2.2.1 HGG.out.1.1 HGG.out.2.1 hnn).mono ?_
        rintro e w9 ⟨rfl, q, rfl⟩
        go_wp2
        go_ret
        exact ⟨rfl, below_drewN hb q⟩

end Go.Proofs.Ytmipnikhgihcpaa
