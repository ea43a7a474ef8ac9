/- Contracts of utf.All and fairref.All. -/
import Derived.Test.YtmipnikhgihcpaaUtf4
import Derived.Test.YtmipnikhgihcpaaCat
namespace Go.Proofs.Ytmipnikhgihcpaa
open Go.RowKit
set_option linter.unusedVariables false
set_option linter.unusedSimpArgs false

/-- what is left of a string -/
def cutS (s : ByteArray) (k : Nat) : ByteArray := s.extract k s.size
def gA (s : ByteArray) (k : Nat) : G := gS (cutS s k)
theorem cut_size (s : ByteArray) (k : Nat) : (cutS s k).size = s.size - k := by unfold cutS; simp
theorem gFin_n {k c : Int} (h : (gFin k c).e = 0) : (gFin k c).n = k := by
  unfold gFin at h ⊢
  split at h
  · simp at h
  · rename_i hh; rw [if_neg hh]
theorem gS_n {s : ByteArray} (h : (gS s).e = 0) : 1 ≤ (gS s).n ∧ (gS s).n ≤ s.size ∧ (gS s).n ≤ 4 := by
  unfold gS gV at h ⊢
  by_cases h0 : s.size = 0
  · rw [if_pos h0] at h; simp at h
  rw [if_neg h0] at h ⊢
  by_cases h1 : bt s 0 < 128
  · rw [if_pos h1]; simp; omega
  rw [if_neg h1] at h ⊢
  by_cases h2 : bt s 0 < 192 ∨ 248 ≤ bt s 0
  · rw [if_pos h2] at h; simp at h
  rw [if_neg h2] at h ⊢
  by_cases h3 : s.size = 1
  · rw [if_pos h3] at h; simp at h
  rw [if_neg h3] at h ⊢
  by_cases h4 : conB (bt s 1) = false
  · rw [if_pos h4] at h; simp at h
  rw [if_neg h4] at h ⊢
  by_cases h5 : bt s 0 < 224
  · rw [if_pos h5] at h ⊢; rw [gFin_n h]; omega
  rw [if_neg h5] at h ⊢
  by_cases h6 : s.size = 2
  · rw [if_pos h6] at h; simp at h
  rw [if_neg h6] at h ⊢
  by_cases h7 : conB (bt s 2) = false
  · rw [if_pos h7] at h; simp at h
  rw [if_neg h7] at h ⊢
  by_cases h8 : bt s 0 < 240
  · rw [if_pos h8] at h ⊢; rw [gFin_n h]; omega
  rw [if_neg h8] at h ⊢
  by_cases h9 : s.size = 3
  · rw [if_pos h9] at h; simp at h
  rw [if_neg h9] at h ⊢
  by_cases h10 : conB (bt s 3) = false
  · rw [if_pos h10] at h; simp at h
  rw [if_neg h10] at h ⊢
  rw [gFin_n h]; omega

/-- all characters -/
structure GA where
  l : List Int
  at' : Nat
  e : Int
def allF (s : ByteArray) : Nat → Nat → List Int → GA
  | 0, k, out => ⟨out, k, 0⟩
  | f + 1, k, out => if k < s.size then (if (gA s k).e = 0 then allF s f (k + (gA s k).n.toNat) (out ++ [(gA s k).c]) else ⟨[], k, (gA s k).e⟩) else ⟨out, k, 0⟩
def allS (s : ByteArray) : GA := allF s s.size 0 []
theorem allF_step {s : ByteArray} {f k : Nat} {out : List Int} (h : k < s.size) (he : (gA s k).e = 0) (hf : s.size ≤ k + f) : ∃ f', f = f' + 1 ∧ allF s f k out = allF s f' (k + (gA s k).n.toNat) (out ++ [(gA s k).c]) ∧ s.size ≤ k + (gA s k).n.toNat + f' := by
  obtain ⟨f', rfl⟩ : ∃ f', f = f' + 1 := ⟨f - 1, by omega⟩
  refine ⟨f', rfl, ?_, ?_⟩
  · rw [allF, if_pos h, if_pos he]
  · have := (gS_n (s := cutS s k) he).1
    unfold gA
    omega
theorem allF_err {s : ByteArray} {f k : Nat} {out : List Int} (h : k < s.size) (he : (gA s k).e ≠ 0) (hf : s.size ≤ k + f) : allF s f k out = ⟨[], k, (gA s k).e⟩ := by
  obtain ⟨f', rfl⟩ : ∃ f', f = f' + 1 := ⟨f - 1, by omega⟩
  rw [allF, if_pos h, if_neg he]
theorem allF_end {s : ByteArray} {f k : Nat} {out : List Int} (h : ¬ k < s.size) : allF s f k out = ⟨out, k, 0⟩ := by
  cases f with
  | zero => rfl
  | succ f => rw [allF, if_neg h]
def AllPost (g : GA) (w : World) (e : Ending) (w' : World) : Prop := ∃ v, e = .returned (.tuple #[v, .int .i64 (g.at' : Int), .int .i64 g.e]) ∧ Own 3 w.heap.size w' v g.l ∧ Below w.heap.size w w'

theorem intsOneU (w : World) (x : Int) : Ints (w.alloc (.cells #[.int .i64 x] 3)) (some ⟨w.heap.size, 0, none⟩) [x] := by
  obtain ⟨y0, -⟩ := Blk.one (Blk.new w #[.int .i64 x] 3)
  refine .inr ⟨_, 0, rfl, fun i hi => ?_⟩
  obtain rfl : i = 0 := by simpa using hi
  exact y0
set_option maxRecDepth 100000 in
set_option maxHeartbeats 4000000 in
theorem utf_all (s : ByteArray) (w : World) (hs : s.size ≤ 1048576) : Calls Try.prog 18 #[.string s] w (AllPost (allS s) w) := by
  go_enter Try.func18, Try.ntmps18
  go_upto_region 3 with fail
  go_loopw [5, 6] (fun v kv wr => ∃ (k f : Nat) (out : List Int), kv = .int .i64 (k : Int) ∧ k ≤ s.size ∧ out.length ≤ k ∧ s.size ≤ k + f ∧ allF s f k out = allS s ∧ Own 3 w.heap.size wr v out ∧ Below w.heap.size w wr) (fun _ kv _ => s.size - (intOf kv).toNat)
  case atStart => exact ⟨0, s.size, [], rfl, by omega, by simp, by omega, rfl, Own.nil _ _ _, Below.refl _ _⟩
  case round =>
    obtain ⟨k, f, out, rfl, hk, hlo, hf, hall, hown, hb⟩ := hrel
    by_cases hlt : k < s.size
    · have i1 : (k : Int) < (s.size : Int) := by omega
      have HG : Hid (∀ w, Calls Try.prog 16 #[.string (s.extract k s.size)] w (GPost (gA s k) w)) := Lib.hid (utf_get (cutS s k))
      by_cases he : (gA s k).e = 0
      · obtain ⟨n1, n2, n3⟩ := gS_n (s := cutS s k) he
        rw [cut_size] at n2
        obtain ⟨f', rfl, hst, hf'⟩ := allF_step (out := out) hlt he hf
        rw [hst] at hall
        have n1' : 1 ≤ (gA s k).n := n1
        have n2' : (gA s k).n ≤ ((s.size - k : Nat) : Int) := n2
        have HF := Lib.hid hf'
        have HALL := Lib.hid hall
        clear n1 n2 n3 hst hall hf' hf
        generalize gA s k = g at *
        obtain ⟨gc, gn, ge⟩ := g
        simp only at he n1' n2'
        subst he
        obtain ⟨m, rfl⟩ := Int.eq_ofNat_of_zero_le (show 0 ≤ gn by omega)
        go_wp2_with fail
        refine (HG.out _).mono ?_
        rintro e w3 ⟨rfl, hb3⟩
        have hown := hown.kept hb3
        have hb := below_then hb hb.size hb3
        have hzz := hb.size
        go_wp2_with (at_builtin; refine appN rfl _ _ rfl w.heap.size _ out [gc] _ 1 1 rfl rfl (hown.alloc _) (intsOneU _ _) rfl (by omega) (size_alloc_le hzz _) ?_; intro v4 w4 hown4 hgrow4 _)
        go_roundw
        case rel =>
          refine ⟨k + m, f', out ++ [gc], by congr 1, by omega, by simp; omega, ?_, ?_, hown4, (hb.alloc hzz _).grown hgrow4 (size_alloc_le hzz _) hown.row⟩
          · have := HF.out; simp only [Int.toNat_natCast] at this; exact this
          · have := HALL.out; simp only [Int.toNat_natCast] at this; exact this
        case measure => simp [intOf]; omega
      · have HR := Lib.hid (allF_err (out := out) hlt he hf)
        rw [hall] at HR
        clear hall hf
        generalize gA s k = g at *
        obtain ⟨gc, gn, ge⟩ := g
        simp only at he
        have z1 : (ge != 0) = true := by simpa using he
        clear he
        go_wp2_with fail
        refine (HG.out _).mono ?_
        rintro e w3 ⟨rfl, hb3⟩
        go_wp2
        go_ret3
        rw [HR.out]
        exact ⟨_, rfl, Own.nil _ _ _, below_then hb hb.size hb3⟩
    · have HR := Lib.hid (allF_end (f := f) (out := out) hlt)
      rw [hall] at HR
      have i1 : ¬ (k : Int) < (s.size : Int) := by omega
      go_wp2
      go_ret3
      rw [HR.out]
      exact ⟨_, rfl, hown, hb⟩
set_option maxRecDepth 100000 in
set_option maxHeartbeats 4000000 in
theorem ref_all (s : ByteArray) (w : World) (hs : s.size ≤ 1048576) : Calls Try.prog 19 #[.string s] w (AllPost (allS s) w) := by
  go_enter Try.func19, Try.ntmps19
  go_upto_region 3 with fail
  go_loopw [5, 6] (fun v kv wr => ∃ (k f : Nat) (out : List Int), kv = .int .i64 (k : Int) ∧ k ≤ s.size ∧ out.length ≤ k ∧ s.size ≤ k + f ∧ allF s f k out = allS s ∧ Own 3 w.heap.size wr v out ∧ Below w.heap.size w wr) (fun _ kv _ => s.size - (intOf kv).toNat)
  case atStart => exact ⟨0, s.size, [], rfl, by omega, by simp, by omega, rfl, Own.nil _ _ _, Below.refl _ _⟩
  case round =>
    obtain ⟨k, f, out, rfl, hk, hlo, hf, hall, hown, hb⟩ := hrel
    by_cases hlt : k < s.size
    · have i1 : (k : Int) < (s.size : Int) := by omega
      have HG : Hid (∀ w, Calls Try.prog 17 #[.string (s.extract k s.size)] w (GPost (gA s k) w)) := Lib.hid (ref_get (cutS s k))
      by_cases he : (gA s k).e = 0
      · obtain ⟨n1, n2, n3⟩ := gS_n (s := cutS s k) he
        rw [cut_size] at n2
        obtain ⟨f', rfl, hst, hf'⟩ := allF_step (out := out) hlt he hf
        rw [hst] at hall
        have n1' : 1 ≤ (gA s k).n := n1
        have n2' : (gA s k).n ≤ ((s.size - k : Nat) : Int) := n2
        have HF := Lib.hid hf'
        have HALL := Lib.hid hall
        clear n1 n2 n3 hst hall hf' hf
        generalize gA s k = g at *
        obtain ⟨gc, gn, ge⟩ := g
        simp only at he n1' n2'
        subst he
        obtain ⟨m, rfl⟩ := Int.eq_ofNat_of_zero_le (show 0 ≤ gn by omega)
        go_wp2_with fail
        refine (HG.out _).mono ?_
        rintro e w3 ⟨rfl, hb3⟩
        have hown := hown.kept hb3
        have hb := below_then hb hb.size hb3
        have hzz := hb.size
        go_wp2_with (at_builtin; refine appN rfl _ _ rfl w.heap.size _ out [gc] _ 1 1 rfl rfl (hown.alloc _) (intsOneU _ _) rfl (by omega) (size_alloc_le hzz _) ?_; intro v4 w4 hown4 hgrow4 _)
        go_roundw
        case rel =>
          refine ⟨k + m, f', out ++ [gc], by congr 1, by omega, by simp; omega, ?_, ?_, hown4, (hb.alloc hzz _).grown hgrow4 (size_alloc_le hzz _) hown.row⟩
          · have := HF.out; simp only [Int.toNat_natCast] at this; exact this
          · have := HALL.out; simp only [Int.toNat_natCast] at this; exact this
        case measure => simp [intOf]; omega
      · have HR := Lib.hid (allF_err (out := out) hlt he hf)
        rw [hall] at HR
        clear hall hf
        generalize gA s k = g at *
        obtain ⟨gc, gn, ge⟩ := g
        simp only at he
        have z1 : (ge != 0) = true := by simpa using he
        clear he
        go_wp2_with fail
        refine (HG.out _).mono ?_
        rintro e w3 ⟨rfl, hb3⟩
        go_wp2
        go_ret3
        rw [HR.out]
        exact ⟨_, rfl, Own.nil _ _ _, below_then hb hb.size hb3⟩
    · have HR := Lib.hid (allF_end (f := f) (out := out) hlt)
      rw [hall] at HR
      have i1 : ¬ (k : Int) < (s.size : Int) := by omega
      go_wp2
      go_ret3
      rw [HR.out]
      exact ⟨_, rfl, hown, hb⟩

end Go.Proofs.Ytmipnikhgihcpaa
