/- The walk of SeekSays. -/
import Derived.Test.YthnjaichbejifaaSeek5
namespace Go.Proofs.Ythnjaichbejifaa
open Go.RowKit
set_option linter.unusedVariables false
set_option linter.unusedSimpArgs false

def XP (l : List Int) (f : Int) (j : Nat) (x : Int) : Prop :=
  (x = -1 ∧ ∀ i, i < j → ix l i < f) ∨ (∃ k, k < j ∧ (∀ i, i < k → ix l i < f) ∧ f ≤ ix l k ∧ x = ix l k)
def YP (l : List Int) (f : Int) (j : Nat) (y : Int) : Prop :=
  (y = -1 ∧ ∀ i, i < j → f ≤ ix l i) ∨ (∃ k, k < j ∧ (∀ i, k < i → i < j → f ≤ ix l i) ∧ ix l k < f ∧ y = ix l k)
def Pos (l : List Int) : Prop := ∀ i, i < l.length → 0 ≤ ix l i

theorem XP.first {l : List Int} {f x : Int} {j : Nat} (h : XP l f j x) (hx : x < 0) (hp : Pos l) (hj : j < l.length) (hf : f ≤ ix l j) : XP l f (j + 1) (ix l j) := by
  rcases h with ⟨rfl, h⟩ | ⟨k, hk, h1, h2, rfl⟩
  · exact .inr ⟨j, by omega, h, hf, rfl⟩
  · have := hp k (by omega); omega
theorem XP.low {l : List Int} {f x : Int} {j : Nat} (h : XP l f j x) (hf : ix l j < f) : XP l f (j + 1) x := by
  rcases h with ⟨rfl, h⟩ | ⟨k, hk, h1, h2, rfl⟩
  · refine .inl ⟨rfl, fun i hi => ?_⟩
    rcases Nat.lt_succ_iff_lt_or_eq.1 hi with h' | rfl
    · exact h i h'
    · exact hf
  · exact .inr ⟨k, by omega, h1, h2, rfl⟩
theorem XP.later {l : List Int} {f x : Int} {j : Nat} (h : XP l f j x) (hx : ¬ x < 0) : XP l f (j + 1) x := by
  rcases h with ⟨rfl, h⟩ | ⟨k, hk, h1, h2, rfl⟩
  · exact absurd (by decide) hx
  · exact .inr ⟨k, by omega, h1, h2, rfl⟩
theorem YP.hit {l : List Int} {f y : Int} {j : Nat} (h : YP l f j y) (hf : ix l j < f) : YP l f (j + 1) (ix l j) :=
  .inr ⟨j, by omega, fun i h1 h2 => by omega, hf, rfl⟩
theorem YP.over {l : List Int} {f y : Int} {j : Nat} (h : YP l f j y) (hf : f ≤ ix l j) : YP l f (j + 1) y := by
  rcases h with ⟨rfl, h⟩ | ⟨k, hk, h1, h2, rfl⟩
  · refine .inl ⟨rfl, fun i hi => ?_⟩
    rcases Nat.lt_succ_iff_lt_or_eq.1 hi with h' | rfl
    · exact h i h'
    · exact hf
  · refine .inr ⟨k, by omega, fun i hi h' => ?_, h2, rfl⟩
    rcases Nat.lt_succ_iff_lt_or_eq.1 h' with h'' | rfl
    · exact h1 i hi h''
    · exact hf
theorem XP.meet {l : List Int} {f x a g : Int} {t : Nat} (ht : l.length = t) (h : XP l f t x) (hn : NextP l f a g) (hp : Pos l) : (x = -1 ∧ a = 0 ∧ g = 6) ∨ (0 ≤ x ∧ a = x ∧ g = 0) := by
  subst ht
  rcases h with ⟨rfl, h⟩ | ⟨k, hk, h1, h2, rfl⟩
  · rcases hn with ⟨k, hk, _, h2, _⟩ | ⟨_, h1, h2⟩
    · have := h k hk; omega
    · exact .inl ⟨rfl, h1, h2⟩
  · rcases hn with ⟨k', hk', h3, h4, h5, h6⟩ | ⟨h3, _⟩
    · have : k' = k := by
        rcases Nat.lt_trichotomy k k' with h | h | h
        · have := h3 k h; omega
        · exact h.symm
        · have := h1 k' h; omega
      subst this
      exact .inr ⟨hp _ hk, h5, h6⟩
    · have := h3 k hk; omega
theorem YP.meet {l : List Int} {f x a g : Int} {t : Nat} (ht : l.length = t) (h : YP l f t x) (hn : LastP l f a g) (hp : Pos l) : (x = -1 ∧ a = 0 ∧ g = 6) ∨ (0 ≤ x ∧ a = x ∧ g = 0) := by
  subst ht
  rcases h with ⟨rfl, h⟩ | ⟨k, hk, h1, h2, rfl⟩
  · rcases hn with ⟨k, hk, _, h2, _⟩ | ⟨_, h1, h2⟩
    · have := h k hk; omega
    · exact .inl ⟨rfl, h1, h2⟩
  · rcases hn with ⟨k', hk', h3, h4, h5, h6⟩ | ⟨h3, _⟩
    · have : k' = k := by
        rcases Nat.lt_trichotomy k k' with h | h | h
        · have := h1 k' h hk'; omega
        · exact h.symm
        · have := h3 k h hk; omega
      subst this
      exact .inr ⟨hp _ hk, h5, h6⟩
    · have := h3 k hk; omega

theorem border_quiet (a : Option Addr) (n c : Nat) (q : List Int) (b : Nat) (w : World) (ha : Ints w a q) (hn : q.length = n) (h1 : 1 ≤ n) (h2 : n ≤ 4096) (hc : n ≤ c) (hc2 : c ≤ 9223372036854775807) (hb : MaxB q n b) :
    Calls Try.prog 50 #[.slice a n c] w fun e w' => e = .returned (.int .i64 (b : Int)) ∧ ∃ d, w' = w.drewN d := by
  refine (ref_border a n c q w ha hn h1 h2 hc hc2).mono ?_
  rintro e w' ⟨k, rfl, hk, h⟩
  rw [hk.unique hb]; exact ⟨rfl, h⟩

set_option maxRecDepth 100000 in
theorem seekSays_bad (a1 a2 : Option Addr) (m c1 n c2 : Nat) (p s : List Int) (f : Int) (w : World) (h1 : Ints w a1 p) (hm : p.length = m) (hm3 : m ≤ 9223372036854775807) (hn3 : n ≤ 9223372036854775807) (hbad : 4096 < m ∨ 4096 < n) :
    Calls Try.prog 9 #[.slice a1 m c1, .slice a2 n c2, .int .i64 f] w fun e w' => e = .returned (.bool true) ∧ Below w.heap.size w w' := by
  have HM := Lib.hid hm; clear hm
  by_cases hbig : 4096 < m
  · go_enter Try.func9, Try.ntmps9
    go_wp2_with fail
    refine (seek_borders_bad a1 m c1 w hbig hm3).mono ?_
    rintro e w' ⟨rfl, rfl⟩
    go_wp2_with fail
    refine (seek_all_bad a1 a2 m c1 n c2 p [] w h1 HM.out hm3 hn3 hbad).mono ?_
    rintro e w2 ⟨rfl, hb2⟩
    go_wp2_with fail
    refine (seek_next_bad a1 a2 m c1 n c2 p [] f w2 (h1.below hb2) HM.out hm3 hn3 hbad).mono ?_
    rintro e w3 ⟨rfl, hb3⟩
    have hb3 := below_then hb2 hb2.size hb3
    go_wp2_with fail
    refine (seek_last_bad a1 a2 m c1 n c2 p [] f w3 (h1.below hb3) HM.out hm3 hn3 hbad).mono ?_
    rintro e w4 ⟨rfl, hb4⟩
    have hb4 := below_then hb3 hb3.size hb4
    go_wp2
    go_ret
    exact ⟨rfl, hb4⟩
  · have hn4 : 4096 < n := by omega
    go_enter Try.func9, Try.ntmps9
    go_wp2_with fail
    refine (seek_borders a1 m c1 p w h1 HM.out (by omega)).mono ?_
    rintro e w1 ⟨g, cb, out, rfl, hI, hlen, hbo, hb1⟩
    clear hI hlen hbo
    go_wp2_with fail
    refine (seek_all_bad a1 a2 m c1 n c2 p [] w1 (h1.below hb1) HM.out hm3 hn3 hbad).mono ?_
    rintro e w2 ⟨rfl, hb2⟩
    have hb2 := below_then hb1 hb1.size hb2
    go_wp2_with fail
    refine (seek_next_bad a1 a2 m c1 n c2 p [] f w2 (h1.below hb2) HM.out hm3 hn3 hbad).mono ?_
    rintro e w3 ⟨rfl, hb3⟩
    have hb3 := below_then hb2 hb2.size hb3
    go_wp2_with fail
    refine (seek_last_bad a1 a2 m c1 n c2 p [] f w3 (h1.below hb3) HM.out hm3 hn3 hbad).mono ?_
    rintro e w4 ⟨rfl, hb4⟩
    have hb4 := below_then hb3 hb3.size hb4
    go_wp2
    go_ret
    exact ⟨ret1_bool (by simp; omega), hb4⟩

set_option maxRecDepth 100000 in
set_option maxHeartbeats 2000000 in
theorem seekSays_ok (a1 a2 : Option Addr) (m c1 n c2 : Nat) (p s : List Int) (f : Int) (w : World) (h1 : Ints w a1 p) (h2 : Ints w a2 s) (hm : p.length = m) (hn : s.length = n) (hm2 : m ≤ 4096) (hn2 : n ≤ 4096) (hc1 : m ≤ c1) (hc2 : n ≤ c2) (hd1 : c1 ≤ 9223372036854775807) (hd2 : c2 ≤ 9223372036854775807) :
    Calls Try.prog 9 #[.slice a1 m c1, .slice a2 n c2, .int .i64 f] w fun e w' => e = .returned (.bool true) ∧ Below w.heap.size w w' := by
  have HM := Lib.hid hm; have HN := Lib.hid hn; clear hm hn
  go_enter Try.func9, Try.ntmps9
  go_wp2_with fail
  refine (seek_borders a1 m c1 p w h1 HM.out (by omega)).mono ?_
  rintro e w1 ⟨g, cb, out, rfl, hI, hlen, hbo, hb1⟩
  have HL := Lib.hid hlen; have HBO := Lib.hid hbo; clear hlen hbo
  have h1 := h1.below hb1; have h2 := h2.below hb1
  go_wp2_with fail
  refine (seek_all a1 a2 m c1 n c2 p s w1 h1 h2 HM.out HN.out hm2 hn2).mono ?_
  rintro e w2 ⟨vl, rfl, hown, hb2⟩
  obtain ⟨al, t, cl, rfl⟩ := hown.form
  obtain ⟨hlt, hJ, hcl⟩ := hown.get
  have HT := Lib.hid hlt
  have hpl := placesS_length p s (n + 1 - m)
  have htn : t ≤ 4097 := by omega
  have hpos : Pos (placesS p s (n + 1 - m)) := fun i hi => (placesS_range (n := n + 1 - m) (p := p) (s := s) (by rw [ix_eq hi]; exact List.getElem_mem hi)).1
  have HPos := Lib.hid hpos; clear hpos
  clear hown hlt hcl hpl
  have h1 := h1.below hb2; have h2 := h2.below hb2; have hI := hI.below hb2
  have hb2 := below_then hb1 hb1.size hb2
  go_wp2_with fail
  refine (seek_next a1 a2 m c1 n c2 p s f w2 h1 h2 HM.out HN.out hm2 hn2).mono ?_
  rintro e w3 ⟨na, ng, rfl, hnx, hb3⟩
  have HNX := Lib.hid hnx; clear hnx
  have h1 := h1.below hb3; have h2 := h2.below hb3; have hI := hI.below hb3; have hJ := hJ.below hb3
  have hb3 := below_then hb2 hb2.size hb3
  go_wp2_with fail
  refine (seek_last a1 a2 m c1 n c2 p s f w3 h1 h2 HM.out HN.out hm2 hn2).mono ?_
  rintro e w4 ⟨la, lg, rfl, hla, hb4⟩
  have HLA := Lib.hid hla; clear hla
  have h1 := h1.below hb4; have h2 := h2.below hb4; have hI := hI.below hb4; have hJ := hJ.below hb4
  have hb4 := below_then hb3 hb3.size hb4
  go_wp2
  go_loopw [104] (fun i wr => ∃ k : Nat, i = .int .i64 (k : Int) ∧ k ≤ m ∧ Below w4.heap.size w4 wr) (fun i _ => m - (intOf i).toNat)
  case atStart => exact ⟨0, rfl, by omega, Below.refl _ _⟩
  case round =>
    obtain ⟨k, rfl, hk, hbw⟩ := hrel
    have h1 := h1.below hbw; have h2 := h2.below hbw; have hI := hI.below hbw; have hJ := hJ.below hbw
    have hb5 := below_then hb4 hb4.size hbw
    by_cases hlt : k < m
    · obtain ⟨b1, o1, rfl, -⟩ := h1.at (k := k) (by rw [HM.out]; exact hlt)
      obtain ⟨bo, oo, hbb, hcc⟩ := hI.at (k := k) (by rw [HL.out]; exact hlt)
      simp only [Option.some.injEq, Addr.mk.injEq] at hbb
      obtain ⟨rfl, rfl, -⟩ := hbb
      obtain ⟨b, hbe, hbm⟩ := HBO.out k hlt
      have cb1 := hcc k (by rw [HL.out]; exact hlt)
      rw [Nat.zero_add, hbe] at cb1
      have i1 : ((k : Int) + 1).toNat = k + 1 := by omega
      have i2 : (k : Int) + 1 ≤ (c1 : Int) := by omega
      have i3 : (k : Int) < (m : Int) := by omega
      have i4 : (0 : Int) ≤ (k : Int) + 1 := by omega
      have hq : (p.take (k + 1)).length = k + 1 := by have := HM.out; simp; omega
      have HQ := Lib.hid hq
      have HB := Lib.hid (maxB_take.2 hbm)
      have hA1 := h1.take (k + 1)
      clear hcc hbe hbm hq
      go_wp2_with fail
      go_quiet ((go_at_call 50; exact Calls.quiet_of (border_quiet (some ⟨b1, o1, none⟩) (k + 1) c1 (p.take (k + 1)) b _ (hA1.drewN _) HQ.out (by omega) (by omega) (by omega) hd1 HB.out)))
      all_goals
        go_wp2
        go_roundw
        case rel => exact ⟨k + 1, by go_num, by omega, below_drewN hbw _⟩
        case measure => simp [intOf]; omega
    · clear hb4 hbw
      go_wp2_with fail
      refine (ref_places a1 a2 m c1 n c2 p s wr h1 h2 HM.out HN.out hm2 hn2 hc2 hd2).mono ?_
      rintro e w6 ⟨vw, rfl, hownw, hb6⟩
      have hJ := hJ.below hb6
      have hb6 := below_then hb5 hb5.size hb6
      generalize placesS p s (n + 1 - m) = l at *
      obtain ⟨aw, t2, cw, rfl⟩ := hownw.form
      obtain ⟨hlw, hW, hcw⟩ := hownw.get
      obtain rfl : t = t2 := by rw [← hlw]; exact HT.out.symm
      clear hownw hlw hcw hb5 hlt hk h1 h2
      go_wp2
      go_loopw [123, 17, 18] (fun i x y wr => ∃ (j : Nat) (xx yy : Int), i = .int .i64 (j : Int) ∧ x = .int .i64 xx ∧ y = .int .i64 yy ∧ j ≤ t ∧ XP l f j xx ∧ YP l f j yy ∧ wr = w6) (fun i _ _ _ => t - (intOf i).toNat)
      case atStart => exact ⟨0, -1, -1, rfl, rfl, rfl, by omega, .inl ⟨rfl, fun i hi => by omega⟩, .inl ⟨rfl, fun i hi => by omega⟩, rfl⟩
      case round =>
        obtain ⟨j, xx, yy, rfl, rfl, rfl, hj, hx, hy, rfl⟩ := hrel
        have HX := Lib.hid hx; have HY := Lib.hid hy; clear hx hy
        by_cases hjt : j < t
        · obtain ⟨bw, ow, rfl, hcc⟩ := hW.at (k := j) (by rw [HT.out]; exact hjt)
          have cj := hcc j (by rw [HT.out]; exact hjt)
          clear hcc
          by_cases hf : f ≤ ix l j
          · by_cases hx0 : xx < 0
            · have HX2 := Lib.hid (HX.out.first hx0 HPos.out (by rw [HT.out]; exact hjt) hf)
              have HY2 := Lib.hid (HY.out.over hf)
              go_wp2
              go_roundw
              case rel => exact ⟨j + 1, _, _, by go_num, rfl, rfl, by omega, HX2.out, HY2.out, trivial⟩
              case measure => simp [intOf]; omega
            · have HX2 := Lib.hid (HX.out.later hx0)
              have HY2 := Lib.hid (HY.out.over hf)
              go_wp2
              go_roundw
              case rel => exact ⟨j + 1, _, _, by go_num, rfl, rfl, by omega, HX2.out, HY2.out, trivial⟩
              case measure => simp [intOf]; omega
          · have HX2 := Lib.hid (HX.out.low (by omega))
            have HY2 := Lib.hid (HY.out.hit (by omega))
            go_wp2
            go_roundw
            case rel => exact ⟨j + 1, _, _, by go_num, rfl, rfl, by omega, HX2.out, HY2.out, trivial⟩
            case measure => simp [intOf]; omega
        · obtain rfl : t = j := by omega
          have hx := HX.out.meet HT.out HNX.out HPos.out
          have hy := HY.out.meet HT.out HLA.out HPos.out
          clear HX HY HNX HLA
          have fin := slices_same al aw t t cl cw l wr hJ hW HT.out HT.out (by omega)
          have FIN := Lib.hid fin; clear fin
          rcases hx with ⟨rfl, rfl, rfl⟩ | ⟨hx0, rfl, rfl⟩
          all_goals
            rcases hy with ⟨rfl, rfl, rfl⟩ | ⟨hy0, rfl, rfl⟩
            all_goals
              go_wp2_with fail
              refine FIN.out.mono ?_
              rintro e w8 ⟨rfl, q8, rfl⟩
              go_wp2
              go_ret
              exact ⟨rfl, below_drewN hb6 q8⟩

theorem seekSays_walk (a1 a2 : Option Addr) (m c1 n c2 : Nat) (p s : List Int) (f : Int) (w : World) (h1 : Ints w a1 p) (h2 : Ints w a2 s) (hm : p.length = m) (hn : s.length = n) (hm3 : m ≤ 9223372036854775807) (hn3 : n ≤ 9223372036854775807) (hc1 : m ≤ c1) (hc2 : n ≤ c2) (hd1 : c1 ≤ 9223372036854775807) (hd2 : c2 ≤ 9223372036854775807) :
    Calls Try.prog 9 #[.slice a1 m c1, .slice a2 n c2, .int .i64 f] w fun e w' => e = .returned (.bool true) ∧ Below w.heap.size w w' := by
  by_cases hbad : 4096 < m ∨ 4096 < n
  · exact seekSays_bad a1 a2 m c1 n c2 p s f w h1 hm hm3 hn3 hbad
  · exact seekSays_ok a1 a2 m c1 n c2 p s f w h1 h2 hm hn (by omega) (by omega) hc1 hc2 hd1 hd2

end Go.Proofs.Ythnjaichbejifaa
