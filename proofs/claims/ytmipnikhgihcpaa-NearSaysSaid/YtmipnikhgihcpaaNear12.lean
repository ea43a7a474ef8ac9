/- Contract of (*near.Tree).Best; Within where most is below zero. -/
import Derived.Test.YtmipnikhgihcpaaNearL
namespace Go.Proofs.Ytmipnikhgihcpaa
open Go.RowKit
set_option linter.unusedVariables false
set_option linter.unusedSimpArgs false

theorem near_Within_neg (p : Value) (a : Option Addr) (m c : Nat) (hm2 : m ≤ 24) (w : World) (most : Int) (h : most < 0) :
    Calls Try.prog 68 #[p, .slice a m c, .int .i64 most] w (fun e w' => e = .returned (.tuple #[.slice none 0 0, .int .i64 1]) ∧ w' = w) := by
  have hmi : (m : Int) ≤ 24 := by omega
  go_enter Try.func68, Try.ntmps68
  go_wp2
  go_ret2
  exact ⟨rfl, rfl⟩

set_option maxRecDepth 100000 in
set_option maxHeartbeats 1000000 in
theorem near_Best (bs : Nat) (A : List Nd) (B M : Nat → Nat) (hI : Inv A) (h100 : A.length ≤ 100) (h1 : 1 ≤ A.length) (wd : List Int) (a : Option Addr) (m c : Nat) (hm : wd.length = m) (hm2 : m ≤ 24) (hA : ∀ x, x < A.length → (nd A x).wd.length ≤ 24) (w : World) (hH : ArH w bs A B M) (hT : Ints w a wd) (x : N2) (r : List N2) (hx : nearsL (fun x => dst (nd A x).wd wd) A.length 48 = x :: r) :
    Calls Try.prog 69 #[.pointer (some ⟨B 0, 0, none⟩), .slice a m c] w (fun e w' => e = .returned (.tuple #[.int .i64 x.a, .int .i64 x.b, .int .i64 0]) ∧ Below w.heap.size w w') := by
  have hD48 : ∀ i, i < A.length → dst (nd A i).wd wd ≤ 48 := fun i hi => by
    have := dst_top (nd A i).wd wd
    have := hA i hi
    omega
  have HW := Lib.hid (fun (w' : World) (hb : Below w.heap.size w w') (q : Nat) => near_Within bs A B M hI h100 h1 wd a m c hm hm2 hA w' (hH.kept hb) (hT.below hb) q)
  have HHD := Lib.hid (show ∀ q : Nat, q ≤ 200 → (48 ≤ q → findL A wd q ≠ []) ∧ ∀ y s, findL A wd q = y :: s → y = x from fun q _ => by
    rw [findL_nears]
    refine ⟨fun h => nearsL_some hD48 (by omega) h, fun y s hy => ?_⟩
    by_cases h : q ≤ 48
    · obtain ⟨r', hr'⟩ := nearsL_pre (fun x => dst (nd A x).wd wd) A.length 48 h
      rw [hx, hy] at hr'
      simp at hr'
      exact hr'.1.symm
    · rw [nearsL_top hD48 q (by omega), hx] at hy
      simp at hy
      exact hy.1.symm)
  have HLN := Lib.hid (show ∀ q, (findL A wd q).length ≤ 100 from fun q => by rw [findL_nears]; exact Nat.le_trans (nearsL_len _ _ _) h100)
  clear hD48 hH hT hx hI hA
  go_enter Try.func69, Try.ntmps69
  go_wp2
  go_loopw [7] (fun v wr => ∃ q : Nat, v = .int .i64 (q : Int) ∧ q ≤ 95 ∧ Below w.heap.size w wr) (fun v _ => 200 - (intOf v).toNat)
  case atStart => exact ⟨0, rfl, by omega, Below.refl _ _⟩
  case round =>
    obtain ⟨q, rfl, hq, hb⟩ := hrel
    have HC := HW.out wr hb q
    rw [Nat.min_eq_left (show q ≤ 200 by omega)] at HC
    have h2 := HHD.out q (by omega)
    have hl := HLN.out q
    generalize findL A wd q = l at *
    rcases l with _ | ⟨y, s⟩
    · have hq48 : q < 48 := Nat.lt_of_not_le fun h => h2.1 h rfl
      have HCC := Lib.hid HC
      have HB := Lib.hid hb
      have hbs := hb.size
      clear h2 HC hb hl
      have hq0 : (0 : Int) ≤ (q : Int) := by omega
      have hq1 : (q : Int) ≤ 48 := by omega
      go_wp2_with (go_at_call 68; go_loud (refine (HCC.out).mono ?_; rintro e w3 ⟨a3, c3, rfl, -, hb3⟩; have hb03 := HB.out.trans (hb3.mono hbs)))
      refine ⟨⟨2 * q + 1, by simp, by omega, hb03⟩, by simp [intOf]; omega⟩
    · have hy := h2.2 y s rfl
      subst hy
      obtain ⟨nl, hnl⟩ : ∃ nl, (y :: s).length = nl := ⟨_, rfl⟩
      have hnl1 : 1 ≤ nl := by rw [← hnl]; simp
      have HCC := Lib.hid HC
      have HB := Lib.hid hb
      have hbs := hb.size
      unfold WinPost at HCC
      rw [hnl] at HCC hl
      have hn1 : (0 : Int) < (nl : Int) := by omega
      clear h2 HC hb hnl
      go_upto_region 7 with (go_at_call 68; go_loud (refine (HCC.out).mono ?_; rintro e w3 ⟨a3, c3, rfl, hr3, hb3⟩; have hb03 := HB.out.trans (hb3.mono hbs)))
      rcases hr3 with h | ⟨b, o, rfl, hr⟩
      · cases h
      · have c0 : w3.cell? ⟨b, o, none⟩ = some (.int .i64 y.a) := by have := hr 0 (by simp) 0 _ rfl; simpa using this
        have c1 : w3.cell? ⟨b, o + 1, none⟩ = some (.int .i64 y.b) := by have := hr 0 (by simp) 1 _ rfl; simpa using this
        clear hr
        go_quiet (fail)
        all_goals
          go_wp2
          go_ret3
          exact ⟨rfl, below_drewN hb03 _⟩

end Go.Proofs.Ytmipnikhgihcpaa
