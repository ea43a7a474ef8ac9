/- Contracts of splice.Between, fairref.Between. -/
import Derived.Test.YtbgbcmfgncneiaaSRow
namespace Go.Proofs.Ytbgbcmfgncneiaa
open Go.RowKit
set_option linter.unusedVariables false
set_option linter.unusedSimpArgs false

/-- as far as two lists begin alike -/
def PreP (l m : List Int) (k : Nat) : Prop := k ≤ l.length ∧ k ≤ m.length ∧ (∀ i, i < k → ix l i = ix m i) ∧ (k = l.length ∨ k = m.length ∨ ix l k ≠ ix m k)
/-- .. and end alike behind k -/
def SufP (l m : List Int) (k j : Nat) : Prop := j + k ≤ l.length ∧ j + k ≤ m.length ∧ (∀ i, i < j → ix l (l.length - 1 - i) = ix m (m.length - 1 - i)) ∧ (j + k = l.length ∨ j + k = m.length ∨ ix l (l.length - 1 - j) ≠ ix m (m.length - 1 - j))
theorem PreP.one {l m : List Int} {a b : Nat} (h : PreP l m a) (h' : PreP l m b) : a = b := by
  obtain ⟨a1, a2, a3, a4⟩ := h
  obtain ⟨b1, b2, b3, b4⟩ := h'
  rcases Nat.lt_trichotomy a b with h | h | h
  · have := b3 a h
    rcases a4 with h' | h' | h'
    · omega
    · omega
    · exact absurd this h'
  · exact h
  · have := a3 b h
    rcases b4 with h' | h' | h'
    · omega
    · omega
    · exact absurd this h'
theorem SufP.one {l m : List Int} {k a b : Nat} (h : SufP l m k a) (h' : SufP l m k b) : a = b := by
  obtain ⟨a1, a2, a3, a4⟩ := h
  obtain ⟨b1, b2, b3, b4⟩ := h'
  rcases Nat.lt_trichotomy a b with h | h | h
  · have := b3 a h
    rcases a4 with h' | h' | h'
    · omega
    · omega
    · exact absurd this h'
  · exact h
  · have := a3 b h
    rcases b4 with h' | h' | h'
    · omega
    · omega
    · exact absurd this h'
theorem PreP.full {l m : List Int} {k : Nat} (h : PreP l m k) (h1 : k = l.length) (h2 : k = m.length) : l = m :=
  ix_ext (by omega) fun i hi => h.2.2.1 i (by omega)
theorem PreP.same {l : List Int} {k : Nat} (h : PreP l l k) : k = l.length := by
  rcases h.2.2.2 with h | h | h
  · exact h
  · exact h
  · exact absurd rfl h
/-- what Between answers -/
def BtP (l m : List Int) (es : List Sp) : Prop := (l = m ∧ es = []) ∨ (l ≠ m ∧ ∃ k j, PreP l m k ∧ SufP l m k j ∧ es = [⟨(k : Int), ((l.length - j : Nat) : Int), (m.take (m.length - j)).drop k⟩])
theorem BtP.one {l m : List Int} {a b : List Sp} (h : BtP l m a) (h' : BtP l m b) : a = b := by
  rcases h with ⟨h1, rfl⟩ | ⟨h1, k, j, p, s, rfl⟩ <;> rcases h' with ⟨h2, rfl⟩ | ⟨h2, k', j', p', s', rfl⟩
  · rfl
  · exact absurd h1 h2
  · exact absurd h2 h1
  · obtain rfl := p.one p'
    obtain rfl := s.one s'
    rfl
theorem BtP.len {l m : List Int} {a : List Sp} (h : BtP l m a) : a.length ≤ 1 := by
  rcases h with ⟨h1, rfl⟩ | ⟨h1, k, j, p, s, rfl⟩ <;> simp

def BtPost (l m : List Int) (w : World) (e : Ending) (w' : World) : Prop := ∃ v us es, e = .returned (.tuple #[v, .int .i64 0]) ∧ SOwn w.heap.size w' v us es ∧ BtP l m es ∧ Below w.heap.size w w'
def BtRPost (l m : List Int) (w : World) (e : Ending) (w' : World) : Prop := ∃ v us es, e = .returned v ∧ SOwn w.heap.size w' v us es ∧ BtP l m es ∧ Below w.heap.size w w'
theorem BtPost.no {l m : List Int} {w w' : World} (h : l = m) (hb : Below w.heap.size w w') : BtPost l m w (.returned (.tuple #[.slice none 0 0, .int .i64 0])) w' := ⟨_, [], [], rfl, SOwn.nil _ _, .inl ⟨h, rfl⟩, hb⟩
theorem sown_one {w : World} {base : Nat} {u : SV} {p : Sp} (hb : base ≤ w.heap.size) (h : SV.is w base u p) : SOwn base (w.alloc (.cells u.cells.toArray 127)) (.slice (some ⟨w.heap.size, 0, none⟩) 1 1) [u] [p] := by
  refine ⟨⟨by simp [SV.cells], .inr ⟨w.heap.size, 1, u.cells.toArray, rfl, hb, heap_alloc_new w _, by simp, by unfold maxLen; omega, by simp [SV.cells], by simp [SV.cells]⟩⟩, .cons (h.imp fun k => k.alloc _) .nil⟩

set_option maxRecDepth 100000 in
set_option maxHeartbeats 2000000 in
theorem splice_between (la ma : Option Addr) (n c p mc : Nat) (l m : List Int) (w : World) (hl : Ints w la l) (hm : Ints w ma m) (hn : l.length = n) (hp : m.length = p) (hn2 : n ≤ 4096) (hp2 : p ≤ 4096) (hmc : p ≤ mc) (h0 : ma = none → p = 0) :
    Calls Try.prog 42 #[.slice la n c, .slice ma p mc] w (BtPost l m w) := by
  have HN := Lib.hid hn
  have HP := Lib.hid hp
  have H0 := Lib.hid h0
  clear hn hp h0
  obtain ⟨N, hN1, hN2, hN3⟩ : ∃ N, N ≤ n ∧ N ≤ p ∧ (n ≤ N ∨ p ≤ N) := ⟨min n p, by omega, by omega, by omega⟩
  go_enter Try.func42, Try.ntmps42
  go_upto_region 4 with fail
  go_cut [6, 7] (fun v u wx => v = .int .i64 (N : Int) ∧ u = .int .i64 0 ∧ w = wx)
  case first =>
    rcases Nat.lt_trichotomy n p with hlt | hlt | hlt
    · obtain rfl : n = N := by omega
      go_wp2
      go_meet
      exact ⟨rfl, rfl, rfl⟩
    · obtain rfl : n = N := by omega
      obtain rfl : n = p := hlt
      go_wp2
      all_goals
        go_meet
        exact ⟨rfl, rfl, rfl⟩
    · obtain rfl : p = N := by omega
      go_wp2
      go_meet
      exact ⟨rfl, rfl, rfl⟩
  obtain ⟨rfl, rfl, rfl⟩ := hcut
  go_upto_block 0 with fail
  go_cut [7] (fun v wx => ∃ k : Nat, v = .int .i64 (k : Int) ∧ k ≤ N ∧ Hid (PreP l m k) ∧ ∃ q, wx = w.drewN q)
  case first =>
    go_wp2
    go_loopw [7] (fun v wr => ∃ k : Nat, v = .int .i64 (k : Int) ∧ k ≤ N ∧ (∀ i, i < k → ix l i = ix m i) ∧ ∃ q, wr = w.drewN q) (fun v _ => N - (intOf v).toNat)
    case atStart => exact ⟨0, rfl, by omega, fun i hi => by omega, 0, rfl⟩
    case round =>
      obtain ⟨k, rfl, hk, hsame, q, rfl⟩ := hrel
      have HS := Lib.hid hsame
      clear hsame
      by_cases hlt : k < N
      · obtain ⟨b1, o1, rfl, hc1⟩ := hl.at (k := k) (by rw [HN.out]; omega)
        obtain ⟨b2, o2, rfl, hc2⟩ := hm.at (k := k) (by rw [HP.out]; omega)
        have c1 := hc1 k (by rw [HN.out]; omega)
        have c2 := hc2 k (by rw [HP.out]; omega)
        have i0 : decide (k < N) = true := by simp; omega
        have i1 : (k : Int) < (n : Int) := by omega
        have i2 : (k : Int) < (p : Int) := by omega
        clear hc1 hc2 hl hm
        by_cases he : ix l k = ix m k
        · have g1 : (ix l k == ix m k) = true := by simpa using he
          have HE := Lib.hid he
          clear he
          go_wp2
          go_quiet (fail)
          go_wp2
          go_roundw
          case rel =>
            refine ⟨k + 1, by go_num, by omega, fun i hi => ?_, _, by first | rfl | exact drewN_drewN _ _ _⟩
            by_cases h : i = k
            · rw [h]; exact HE.out
            · exact HS.out i (by omega)
          case measure => simp [intOf]; omega
        · have g1 : (ix l k == ix m k) = false := by simpa using he
          have HE := Lib.hid he
          clear he
          go_wp2
          go_quiet (fail)
          go_wp2
          go_meet
          exact ⟨k, rfl, by omega, Lib.hid ⟨by rw [HN.out]; omega, by rw [HP.out]; omega, HS.out, .inr (.inr HE.out)⟩, _, by first | rfl | exact drewN_drewN _ _ _⟩
      · obtain rfl : N = k := by omega
        have i0 : decide (N < N) = false := by simp
        go_wp2
        go_quiet (fail)
        go_wp2
        go_meet
        exact ⟨N, rfl, by omega, Lib.hid ⟨by rw [HN.out]; omega, by rw [HP.out]; omega, HS.out, by rw [HN.out, HP.out]; omega⟩, _, by first | rfl | exact drewN_drewN _ _ _⟩
  obtain ⟨k, rfl, hk, HPR, q, rfl⟩ := hcut
  go_upto_block 2 with fail
  go_cut [8] (fun v wx => ∃ j : Nat, v = .int .i64 (j : Int) ∧ j + k ≤ N ∧ Hid (SufP l m k j) ∧ ∃ q, wx = w.drewN q)
  case first =>
    go_wp2
    go_loopw [8] (fun v wr => ∃ j : Nat, v = .int .i64 (j : Int) ∧ j + k ≤ N ∧ (∀ i, i < j → ix l (l.length - 1 - i) = ix m (m.length - 1 - i)) ∧ ∃ q, wr = w.drewN q) (fun v _ => N - (intOf v).toNat)
    case atStart => exact ⟨0, rfl, by omega, fun i hi => by omega, q, rfl⟩
    case round =>
      obtain ⟨j, rfl, hj, hsame, q, rfl⟩ := hrel
      have HS := Lib.hid hsame
      clear hsame
      have iw1 : IntKind.i64.wrap ((N : Int) - (k : Int)) = (N : Int) - (k : Int) := IntWalk.i64_in _ (by omega)
      by_cases hlt : j + k < N
      · obtain ⟨b1, o1, rfl, hc1⟩ := hl.at (k := n - 1 - j) (by rw [HN.out]; omega)
        obtain ⟨b2, o2, rfl, hc2⟩ := hm.at (k := p - 1 - j) (by rw [HP.out]; omega)
        have c1 := hc1 (n - 1 - j) (by rw [HN.out]; omega)
        have c2 := hc2 (p - 1 - j) (by rw [HP.out]; omega)
        have i0 : decide ((j : Int) < (N : Int) - (k : Int)) = true := by simp; omega
        have i1 : (n : Int) - 1 - (j : Int) < (n : Int) := by omega
        have i2 : (p : Int) - 1 - (j : Int) < (p : Int) := by omega
        have i3 : (0 : Int) ≤ (n : Int) - 1 - (j : Int) := by omega
        have i4 : (0 : Int) ≤ (p : Int) - 1 - (j : Int) := by omega
        have i5 : ((n : Int) - 1 - (j : Int)).toNat = n - 1 - j := by omega
        have i6 : ((p : Int) - 1 - (j : Int)).toNat = p - 1 - j := by omega
        have iw2 : IntKind.i64.wrap ((n : Int) - 1) = (n : Int) - 1 := IntWalk.i64_in _ (by omega)
        have iw3 : IntKind.i64.wrap ((p : Int) - 1) = (p : Int) - 1 := IntWalk.i64_in _ (by omega)
        have iw4 : IntKind.i64.wrap ((n : Int) - 1 - (j : Int)) = (n : Int) - 1 - (j : Int) := IntWalk.i64_in _ (by omega)
        have iw5 : IntKind.i64.wrap ((p : Int) - 1 - (j : Int)) = (p : Int) - 1 - (j : Int) := IntWalk.i64_in _ (by omega)
        clear hc1 hc2 hl hm
        by_cases he : ix l (n - 1 - j) = ix m (p - 1 - j)
        · have g1 : (ix l (n - 1 - j) == ix m (p - 1 - j)) = true := by simpa using he
          have HE := Lib.hid he
          clear he
          go_wp2
          go_quiet (fail)
          clear iw1 iw2 iw3 iw4 iw5 i5 i6
          go_wp2
          go_roundw
          case rel =>
            refine ⟨j + 1, by go_num, by omega, fun i hi => ?_, _, by first | rfl | exact drewN_drewN _ _ _⟩
            by_cases h : i = j
            · rw [h, HN.out, HP.out]; exact HE.out
            · exact HS.out i (by omega)
          case measure => simp [intOf]; omega
        · have g1 : (ix l (n - 1 - j) == ix m (p - 1 - j)) = false := by simpa using he
          have HE := Lib.hid he
          clear he
          go_wp2
          go_quiet (fail)
          clear iw1 iw2 iw3 iw4 iw5 i5 i6
          go_wp2
          go_meet
          exact ⟨j, rfl, by omega, Lib.hid ⟨by rw [HN.out]; omega, by rw [HP.out]; omega, HS.out, .inr (.inr (by rw [HN.out, HP.out]; exact HE.out))⟩, _, by first | rfl | exact drewN_drewN _ _ _⟩
      · have i0 : decide ((j : Int) < (N : Int) - (k : Int)) = false := by simp; omega
        go_wp2
        go_quiet (fail)
        clear iw1
        go_wp2
        go_meet
        exact ⟨j, rfl, by omega, Lib.hid ⟨by rw [HN.out]; omega, by rw [HP.out]; omega, HS.out, by rw [HN.out, HP.out]; omega⟩, _, by first | rfl | exact drewN_drewN _ _ _⟩
  obtain ⟨j, rfl, hj, HSU, q, rfl⟩ := hcut
  by_cases heq : k = n ∧ k = p
  · obtain ⟨rfl, rfl⟩ := heq
    go_wp2
    go_ret2
    exact BtPost.no (HPR.out.full HN.out.symm HP.out.symm) (below_drewN (Below.refl _ _) _)
  · have hne : l ≠ m := by
      rintro rfl
      have h1 := HPR.out.same
      have h2 := HN.out
      have h3 := HP.out
      omega
    have HNE := Lib.hid hne
    have hcr := cut_run ma p mc k (p - j) (by omega) (by omega)
    have hcut2 := (hm.drewN q).cutTo (c := mc) k (p - j) (by rw [HP.out]; omega) (by omega) (by rw [HP.out]; omega)
    have HCL := Lib.hid (show ((m.take (p - j)).drop k).length = p - j - k by rw [List.length_drop, List.length_take, HP.out]; omega)
    have HC0 := Lib.hid (show cutA ma mc k = none → p - j - k = 0 from fun h => by have := H0.out (cutA_none h); omega)
    have ie1 : (p : Int) - (j : Int) = ((p - j : Nat) : Int) := by omega
    have ie2 : (n : Int) - (j : Int) = ((n - j : Nat) : Int) := by omega
    clear hne H0
    have hfin : ∀ a8 n8 c8 w8, Own 3 (w.drewN q).heap.size w8 (.slice a8 n8 c8) ((m.take (p - j)).drop k) → Below (w.drewN q).heap.size (w.drewN q) w8 →
        BtPost l m w (.returned (.tuple #[.slice (some ⟨w8.heap.size, 0, none⟩) 1 1, .int .i64 0])) (w8.alloc (.cells #[.int .i64 (k : Int), .int .i64 ((n - j : Nat) : Int), .slice a8 n8 c8] 127)) := by
      intro a8 n8 c8 w8 o8 hb8
      have hb9 : Below w.heap.size w w8 := below_then (below_drewN (Below.refl _ _) q) (Nat.le_refl _) hb8
      have hs := sown_one (w := w8) (base := w.heap.size) (u := ⟨(k : Int), ((n - j : Nat) : Int), a8, n8, c8⟩) (p := ⟨(k : Int), ((n - j : Nat) : Int), (m.take (p - j)).drop k⟩) hb9.size ⟨rfl, rfl, o8⟩
      exact ⟨_, _, _, rfl, hs, .inr ⟨HNE.out, k, j, HPR.out, HSU.out, by rw [HN.out, HP.out]⟩, hb9.alloc hb9.size _⟩
    have HF := Lib.hid hfin
    clear hfin
    rcases (show k = n ∨ k ≠ n by omega) with kn | kn
    · obtain rfl : k = n := kn
      have g : ((k : Int) == (p : Int)) = false := by rw [beq_eq_false_iff_ne]; omega
      clear heq
      go_wp2_with (go_at_call 88; refine (slices_clone (cutA ma mc k) (p - j - k) (mc - k) ((m.take (p - j)).drop k) _ hcut2 HCL.out (by omega) HC0.out).mono ?_; rintro e w8 ⟨v8, rfl, o8, hb8⟩; obtain ⟨a8, n8, c8, rfl⟩ := o8.form)
      go_ret2
      exact HF.out a8 n8 c8 w8 o8 hb8
    · have g : ((k : Int) == (n : Int)) = false := by rw [beq_eq_false_iff_ne]; omega
      clear heq kn
      go_wp2_with (go_at_call 88; refine (slices_clone (cutA ma mc k) (p - j - k) (mc - k) ((m.take (p - j)).drop k) _ hcut2 HCL.out (by omega) HC0.out).mono ?_; rintro e w8 ⟨v8, rfl, o8, hb8⟩; obtain ⟨a8, n8, c8, rfl⟩ := o8.form)
      go_ret2
      exact HF.out a8 n8 c8 w8 o8 hb8

end Go.Proofs.Ytbgbcmfgncneiaa
