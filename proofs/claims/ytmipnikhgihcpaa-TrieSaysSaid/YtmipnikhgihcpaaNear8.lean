/- NearSays: contracts of cmp.Compare, cmp.Or and of the comparison that Within hands to the sort. -/
import Derived.Test.YtmipnikhgihcpaaNRow
import Derived.Test.YtmipnikhgihcpaaShelfN
import Derived.Deep.RegionLaw
import Derived.Deep.DeepCutAuto
import Derived.Deep.CutBlock
import Derived.Deep.RegionHeld3
namespace Go.Proofs.Ytmipnikhgihcpaa
open Go.RowKit
set_option linter.unusedVariables false
set_option linter.unusedSimpArgs false

def cmpI (x y : Int) : Int := if x < y then -1 else if y < x then 1 else 0
theorem cmp_compare (x y : Int) (w : World) : Calls Try.prog 128 #[.int .i64 x, .int .i64 y] w fun e w' => e = .returned (.int .i64 (cmpI x y)) ∧ w' = w := by
  have h : cmpI x y = if x < y then -1 else if y < x then 1 else 0 := rfl
  by_cases h1 : x < y
  · rw [if_pos h1] at h
    rw [h]; clear h
    go_enter Try.func128, Try.ntmps128
    go_wp2
    go_ret
    exact ⟨rfl, rfl⟩
  · by_cases h2 : y < x
    · rw [if_neg h1, if_pos h2] at h
      rw [h]; clear h
      go_enter Try.func128, Try.ntmps128
      go_wp2
      go_ret
      exact ⟨rfl, rfl⟩
    · rw [if_neg h1, if_neg h2] at h
      rw [h]; clear h
      go_enter Try.func128, Try.ntmps128
      go_wp2
      go_ret
      exact ⟨rfl, rfl⟩
set_option maxRecDepth 100000 in
theorem cmp_or2 (b o : Nat) (u v : Int) (w : World) (h0 : w.cell? ⟨b, o, none⟩ = some (.int .i64 u)) (h1 : w.cell? ⟨b, o + 1, none⟩ = some (.int .i64 v)) :
    Calls Try.prog 127 #[.slice (some ⟨b, o, none⟩) 2 2] w fun e w' => e = .returned (.int .i64 (if u ≠ 0 then u else v)) ∧ w' = w := by
  obtain ⟨R, hR⟩ : ∃ R, (if u ≠ 0 then u else v) = R := ⟨_, rfl⟩
  rw [hR]
  have HR := Lib.hid hR
  clear hR
  go_enter Try.func127, Try.ntmps127
  go_wp2
  go_loop [8] (fun i => ∃ k : Nat, i = .int .i64 (k : Int) ∧ (k = 0 ∨ (k = 1 ∧ u = 0) ∨ (k = 2 ∧ u = 0 ∧ v = 0))) (fun i => 2 - (intOf i).toNat)
  case atStart => exact ⟨0, rfl, .inl rfl⟩
  case round =>
    obtain ⟨k, rfl, hk⟩ := hrel
    rcases hk with rfl | ⟨rfl, hu⟩ | ⟨rfl, hu, hv⟩
    · by_cases hu : u = 0
      · have x0 : (u != 0) = false := by simpa using hu
        have HU := Lib.hid hu
        clear hu
        go_wp2
        go_round
        case rel => exact ⟨1, rfl, .inr (.inl ⟨rfl, HU.out⟩)⟩
        case measure => simp [intOf]
      · have x0 : (u != 0) = true := by simpa using hu
        have HU := Lib.hid hu
        clear hu
        go_wp2
        go_ret
        exact ⟨by rw [← HR.out, if_pos HU.out]; rfl, rfl⟩
    · have HU := Lib.hid hu
      clear hu
      by_cases hv : v = 0
      · have x0 : (v != 0) = false := by simpa using hv
        have HV := Lib.hid hv
        clear hv
        go_wp2
        go_round
        case rel => exact ⟨2, rfl, .inr (.inr ⟨rfl, HU.out, HV.out⟩)⟩
        case measure => simp [intOf]
      · have x0 : (v != 0) = true := by simpa using hv
        clear hv
        go_wp2
        go_ret
        exact ⟨by rw [← HR.out, if_neg (by simpa using HU.out)]; rfl, rfl⟩
    · have HU := Lib.hid hu; have HV := Lib.hid hv
      clear hu hv
      go_wp2
      go_ret
      exact ⟨by rw [← HR.out, if_neg (by simpa using HU.out), HV.out]; rfl, rfl⟩

/-- how two finds are compared: by how far, then by number -/
def cmpN (x y : N2) : Int := if cmpI x.b y.b ≠ 0 then cmpI x.b y.b else cmpI x.a y.a
set_option maxRecDepth 100000 in
set_option maxHeartbeats 2000000 in
theorem within_cmp (x y : N2) (W : World) : Calls Try.prog 132 #[.agg #[.int .i64 x.a, .int .i64 x.b], .agg #[.int .i64 y.a, .int .i64 y.b]] W fun e w' => e = .returned (.int .i64 (cmpN x y)) ∧ ∃ q os', w' = Go.Sort.grow (W.drewN q) os' := by
  obtain ⟨xa, xb⟩ := x
  obtain ⟨ya, yb⟩ := y
  dsimp only
  have HC := Lib.hid (fun w => cmp_compare xb yb w)
  have HD := Lib.hid (fun w => cmp_compare xa ya w)
  obtain ⟨u, hu⟩ : ∃ u, cmpI xb yb = u := ⟨_, rfl⟩
  obtain ⟨v, hv⟩ : ∃ v, cmpI xa ya = v := ⟨_, rfl⟩
  rw [hu] at HC
  rw [hv] at HD
  have HR := Lib.hid (show cmpN ⟨xa, xb⟩ ⟨ya, yb⟩ = if u ≠ 0 then u else v by rw [← hu, ← hv]; rfl)
  obtain ⟨R, hR⟩ : ∃ R, cmpN ⟨xa, xb⟩ ⟨ya, yb⟩ = R := ⟨_, rfl⟩
  rw [hR] at HR ⊢
  clear hu hv hR
  go_enter Try.func132, Try.ntmps132
  go_upto_region 1 with fail
  have hb1 := (Blk.new W #[.int .i64 xa, .int .i64 xb] 116).alloc (.cells #[.int .i64 ya, .int .i64 yb] 116)
  have hb2 := Blk.new (W.alloc (.cells #[.int .i64 xa, .int .i64 xb] 116)) #[.int .i64 ya, .int .i64 yb] 116
  rw [World.size_alloc] at hb2
  have hgr : (W.alloc (.cells #[.int .i64 xa, .int .i64 xb] 116)).alloc (.cells #[.int .i64 ya, .int .i64 yb] 116) = Go.Sort.grow W (#[.cells #[.int .i64 xa, .int .i64 xb] 116] ++ #[.cells #[.int .i64 ya, .int .i64 yb] 116]) := by rw [Go.Sort.alloc_eq_grow, Go.Sort.alloc_eq_grow, Go.Sort.grow_grow]
  generalize (W.alloc (.cells #[.int .i64 xa, .int .i64 xb] 116)).alloc (.cells #[.int .i64 ya, .int .i64 yb] 116) = W2 at *
  generalize (#[.cells #[.int .i64 xa, .int .i64 xb] 116] ++ #[.cells #[.int .i64 ya, .int .i64 yb] 116] : Array Obj) = os at *
  have HGR := Lib.hid hgr
  obtain ⟨x0, x1, -, -⟩ := hb1.two
  obtain ⟨y0, y1, -, -⟩ := hb2.two
  have hor := fun (w : World) h0 h1 => cmp_or2 W2.heap.size 0 u v w h0 h1
  rw [← HR.out] at hor
  have HOR := Lib.hid hor
  clear hor
  have HN := Lib.hid (Blk.new W2 #[.int .i64 u, .int .i64 v] 3)
  clear hgr hb1 hb2
  go_region_law (first | (go_simp; go_at_call 128; (with_reducible refine (HC.out _).mono ?_); rintro e w6 ⟨rfl, rfl⟩) | (go_simp; go_at_call 128; (with_reducible refine (HD.out _).mono ?_); rintro e w6 ⟨rfl, rfl⟩) | (go_simp; go_at_call 127; refine (HOR.out _ (HN.out.drew.two).1 (HN.out.drew.two).2.1).mono ?_; rintro e w6 ⟨rfl, rfl⟩))
  all_goals
    go_wp2
    go_ret
    refine ⟨rfl, 1, os ++ #[.cells #[.int .i64 u, .int .i64 v] 3], ?_⟩
    rw [Go.Sort.alloc_eq_grow, HGR.out, Go.Sort.grow_grow]
    rfl

end Go.Proofs.Ytmipnikhgihcpaa
