/- Contracts of fairref.MoveErr, Go (whole), Range. -/
import Derived.Test.YtbgbcmfgncneiaaMot10
namespace Go.Proofs.Ytbgbcmfgncneiaa
open Go.RowKit
set_option linter.unusedVariables false
set_option linter.unusedSimpArgs false

def keyL : List Int := [104, 108, 48, 94, 36, 124, 119, 87, 98, 66, 101, 69, 37, 102, 70, 116, 84]
def keyS : ByteArray := { data := #[104, 108, 48, 94, 36, 124, 119, 87, 98, 66, 101, 69, 37, 102, 70, 116, 84] }
theorem keyS_at1 (p : Nat) (h : p < keyS.size) : ((keyS[p]'h).toNat : Int) = ix keyL p := by
  have h' : p < 17 := h
  rcases (show p = 0 ∨ p = 1 ∨ p = 2 ∨ p = 3 ∨ p = 4 ∨ p = 5 ∨ p = 6 ∨ p = 7 ∨ p = 8 ∨ p = 9 ∨ p = 10 ∨ p = 11 ∨ p = 12 ∨ p = 13 ∨ p = 14 ∨ p = 15 ∨ p = 16 by omega) with rfl | rfl | rfl | rfl | rfl | rfl | rfl | rfl | rfl | rfl | rfl | rfl | rfl | rfl | rfl | rfl | rfl
  all_goals rfl
theorem ix_keyL_in {p : Nat} (h' : p < 17) : 0 ≤ ix keyL p ∧ ix keyL p ≤ 127 := by
  rcases (show p = 0 ∨ p = 1 ∨ p = 2 ∨ p = 3 ∨ p = 4 ∨ p = 5 ∨ p = 6 ∨ p = 7 ∨ p = 8 ∨ p = 9 ∨ p = 10 ∨ p = 11 ∨ p = 12 ∨ p = 13 ∨ p = 14 ∨ p = 15 ∨ p = 16 by omega) with rfl | rfl | rfl | rfl | rfl | rfl | rfl | rfl | rfl | rfl | rfl | rfl | rfl | rfl | rfl | rfl | rfl
  all_goals exact ⟨by decide, by decide⟩
theorem keyS_at (p : Nat) (h : p < keyS.size) : ((keyS[p]'h).toNat : Int) = ix keyL p ∧ (keyS[p]'h).toNat < 128 := by
  have h1 := keyS_at1 p h
  have h2 := ix_keyL_in (p := p) h
  exact ⟨h1, by omega⟩
theorem keyL_mem {key : Int} {p : Nat} (h : p < 17) (he : ix keyL p = key) : knownS key = true := by
  rw [← he]
  rcases (show p = 0 ∨ p = 1 ∨ p = 2 ∨ p = 3 ∨ p = 4 ∨ p = 5 ∨ p = 6 ∨ p = 7 ∨ p = 8 ∨ p = 9 ∨ p = 10 ∨ p = 11 ∨ p = 12 ∨ p = 13 ∨ p = 14 ∨ p = 15 ∨ p = 16 by omega) with rfl | rfl | rfl | rfl | rfl | rfl | rfl | rfl | rfl | rfl | rfl | rfl | rfl | rfl | rfl | rfl | rfl
  all_goals rfl
theorem keyL_not {key : Int} (h : ∀ p, p < 17 → ix keyL p ≠ key) : knownS key = false := by
  have h0 := h 0 (by omega); have h1 := h 1 (by omega); have h2 := h 2 (by omega); have h3 := h 3 (by omega); have h4 := h 4 (by omega); have h5 := h 5 (by omega); have h6 := h 6 (by omega); have h7 := h 7 (by omega); have h8 := h 8 (by omega)
  have h9 := h 9 (by omega); have h10 := h 10 (by omega); have h11 := h 11 (by omega); have h12 := h 12 (by omega); have h13 := h 13 (by omega); have h14 := h 14 (by omega); have h15 := h 15 (by omega); have h16 := h 16 (by omega)
  simp [ix, keyL] at h0 h1 h2 h3 h4 h5 h6 h7 h8 h9 h10 h11 h12 h13 h14 h15 h16
  simp [knownS]
  omega
theorem moveE_ways2 (l : List Int) (k key count : Int) : (4096 < l.length ∧ moveE l k key count = 2) ∨ (l.length ≤ 4096 ∧ (k < 0 ∨ (0 < k ∧ (l.length : Int) ≤ k) ∨ (0 < k ∧ k < l.length ∧ (count < 0 ∨ 999 < count)) ∨ (k = 0 ∧ (count < 0 ∨ 999 < count))) ∧ moveE l k key count = 1)
    ∨ (l.length ≤ 4096 ∧ (k = 0 ∨ (0 < k ∧ k < l.length)) ∧ 0 ≤ count ∧ count ≤ 999 ∧ moveE l k key count = if knownS key then 0 else 9) := by
  unfold moveE
  by_cases h1 : 4096 < l.length
  · left; rw [if_pos h1]; exact ⟨h1, rfl⟩
  · rw [if_neg h1]
    right
    by_cases h2 : k < 0 ∨ (0 < k ∧ (l.length : Int) ≤ k) ∨ count < 0 ∨ 999 < count
    · left; rw [if_pos h2]; exact ⟨by omega, by omega, rfl⟩
    · right; rw [if_neg h2]; exact ⟨by omega, by omega, by omega, by omega, rfl⟩

set_option maxRecDepth 100000 in
set_option maxHeartbeats 2000000 in
theorem ref_move_err (a : Option Addr) (n c : Nat) (l : List Int) (k key count arg : Int) (w : World) (hn : l.length = n) (hn2 : n ≤ 9223372036854775807) :
    Calls Try.prog 78 #[.slice a n c, .int .i64 k, mvV key count arg] w fun e w' => e = .returned (.int .i64 (moveE l k key count)) ∧ Below w.heap.size w w' := by
  unfold mvV
  have hB := Blk.new w #[.int .i64 key, .int .i64 count, .int .i64 arg] 116
  obtain ⟨c0, c1, c2, -, -, -⟩ := hB.three
  have hacc := below1 w (.cells #[.int .i64 key, .int .i64 count, .int .i64 arg] 116)
  rcases moveE_ways2 l k key count with ⟨h1, h2⟩ | ⟨h1, h2, h3⟩ | ⟨h1, h2, h3, h4, h5⟩
  · rw [h2]
    rw [hn] at h1
    clear h2 hn
    go_enter Try.func78, Try.ntmps78
    go_wp2
    go_ret
    exact ⟨rfl, hacc⟩
  · rw [h3]
    rw [hn] at h1 h2
    clear h3 hn
    rcases h2 with h | ⟨h, h'⟩ | ⟨h, h', h'' | h''⟩ | ⟨rfl, h'' | h''⟩
    all_goals
      go_enter Try.func78, Try.ntmps78
      go_wp2
      all_goals
        go_ret
        exact ⟨rfl, hacc⟩
  · rw [hn] at h1 h2
    have HE := Lib.hid h5
    clear h5 hn
    have hsz : w.heap.size < (w.alloc (.cells #[.int .i64 key, .int .i64 count, .int .i64 arg] 116)).heap.size := by simp
    rcases h2 with rfl | ⟨h2, h2'⟩
    all_goals
      go_enter Try.func78, Try.ntmps78
      go_upto_region 1 with fail
      change Code.wp _ _ _ _ (w.alloc (.cells #[.int .i64 key, .int .i64 count, .int .i64 arg] 116))
      generalize (w.alloc (.cells #[.int .i64 key, .int .i64 count, .int .i64 arg] 116)) = w1 at *
      go_wp2
      go_loopw [8] (fun v wr => ∃ p : Nat, wr = w1.iter keyS p ∧ p ≤ 17 ∧ ∀ p', p' < p → ix keyL p' ≠ key) (fun _ wr => 17 - wr.iterPos w1.heap.size)
      case atStart => exact ⟨0, rfl, by omega, fun p h => by omega⟩
      case round =>
        obtain ⟨p, rfl, hp, hno⟩ := hrel
        have HNO := Lib.hid hno; clear hno
        by_cases hlt : p < 17
        · obtain ⟨k1, k2⟩ := keyS_at p hlt
          have hnx := fun ty => run_next_ascii (P := Try.prog) w1 keyS p ty hlt k2
          rw [k1] at hnx
          obtain ⟨r1, r2⟩ := ix_keyL_in hlt
          have d0 : (w1.iter keyS (p + 1)).cell? ⟨w.heap.size, 0, none⟩ = some (.int .i64 key) := by
            rw [show w1.iter keyS (p + 1) = w1.alloc (.stringIter keyS (p + 1)) from rfl]
            exact ((Blk.alloc hB _).cell 0)
          clear k1 k2
          by_cases hh : ix keyL p = key
          · have hb : (ix keyL p == key) = true := by simpa using hh
            have HK := Lib.hid (keyL_mem hlt hh)
            clear hh
            go_wp2
            go_ret
            exact ⟨by rw [HE.out, HK.out]; rfl, hacc.alloc (by omega) _⟩
          · have hb : (ix keyL p == key) = false := by simpa using hh
            have HH := Lib.hid hh
            clear hh
            go_wp2
            go_roundw
            case rel => exact ⟨p + 1, rfl, by omega, fun p' h => by
              rcases Nat.lt_succ_iff_lt_or_eq.1 h with h | rfl
              · exact HNO.out p' h
              · exact HH.out⟩
            case measure => simp; omega
        · obtain rfl : p = 17 := by omega
          have hnx := fun ty => run_next_end (P := Try.prog) w1 keyS 17 ty (by decide)
          have HK := Lib.hid (keyL_not HNO.out)
          go_wp2
          go_ret
          exact ⟨by rw [HE.out, HK.out]; rfl, hacc.alloc (by omega) _⟩

theorem rgo_Z (a : Option Addr) (n c : Nat) (l : List Int) (k : Nat) (arg : Int) (op : Bool) (w : World) (hl : Ints w a l) (hn : l.length = n) (hn2 : n ≤ 4096) (hk : k ≤ n) (hk2 : k < n ∨ n = 0) (key : Int) (hK : knownS key = true) :
    Calls Try.prog 82 #[.slice a n c, .int .i64 (k : Int), mvV key 0 arg, .bool op] w (RGoPost (moS l k key 1 arg op) w) := by
  have hn' : n = 0 ∨ 1 ≤ n := by omega
  rcases key_ways key with rfl | rfl | rfl | rfl | rfl | rfl | rfl | rfl | rfl | rfl | rfl | rfl | rfl | rfl | rfl | rfl | rfl | h
  case inr.inr.inr.inr.inr.inr.inr.inr.inr.inr.inr.inr.inr.inr.inr.inr.inr => rw [hK] at h; cases h
  · exact rgo_h_Z a n c l k arg op w hl hn hn2 hk hk2
  · exact rgo_l_Z a n c l k arg op w hl hn hn2 hk hk2
  · exact rgo_0_Z a n c l k arg op w hl hn hn2 hk hk2
  · exact rgo_first_Z a n c l k arg op w hl hn hn2 hk hk2
  · rcases hn' with h0 | h0
    · exact rgo_nil36_Z a n c l k arg op w hl hn hn2 hk hk2 h0 (by omega)
    · exact rgo_36_Z a n c l k arg op w hl hn hn2 hk hk2 h0 (by omega)
  · rcases hn' with h0 | h0
    · exact rgo_nil124_Z a n c l k arg op w hl hn hn2 hk hk2 h0 (by omega)
    · exact rgo_124_Z a n c l k arg op w hl hn hn2 hk hk2 h0 (by omega)
  · rcases hn' with h0 | h0
    · exact rgo_nil119_Z a n c l k arg op w hl hn hn2 hk hk2 h0 (by omega)
    · exact rgo_119_Z a n c l k arg op w hl hn hn2 hk hk2 h0 (by omega)
  · rcases hn' with h0 | h0
    · exact rgo_nil87_Z a n c l k arg op w hl hn hn2 hk hk2 h0 (by omega)
    · exact rgo_87_Z a n c l k arg op w hl hn hn2 hk hk2 h0 (by omega)
  · exact rgo_b_Z a n c l k arg op w hl hn hn2 hk hk2
  · exact rgo_B_Z a n c l k arg op w hl hn hn2 hk hk2
  · rcases hn' with h0 | h0
    · exact rgo_nil101_Z a n c l k arg op w hl hn hn2 hk hk2 h0 (by omega)
    · exact rgo_101_Z a n c l k arg op w hl hn hn2 hk hk2 h0 (by omega)
  · rcases hn' with h0 | h0
    · exact rgo_nil69_Z a n c l k arg op w hl hn hn2 hk hk2 h0 (by omega)
    · exact rgo_69_Z a n c l k arg op w hl hn hn2 hk hk2 h0 (by omega)
  · rcases hn' with h0 | h0
    · exact rgo_nil37_Z a n c l k arg op w hl hn hn2 hk hk2 h0 (by omega)
    · exact rgo_37_Z a n c l k arg op w hl hn hn2 hk hk2 h0 (by omega)
  · rcases hn' with h0 | h0
    · exact rgo_nil102_Z a n c l k arg op w hl hn hn2 hk hk2 h0 (by omega)
    · exact rgo_102_Z a n c l k arg op w hl hn hn2 hk hk2 h0 (by omega)
  · rcases hn' with h0 | h0
    · exact rgo_nil70_Z a n c l k arg op w hl hn hn2 hk hk2 h0 (by omega)
    · exact rgo_70_Z a n c l k arg op w hl hn hn2 hk hk2 h0 (by omega)
  · rcases hn' with h0 | h0
    · exact rgo_nil116_Z a n c l k arg op w hl hn hn2 hk hk2 h0 (by omega)
    · exact rgo_116_Z a n c l k arg op w hl hn hn2 hk hk2 h0 (by omega)
  · rcases hn' with h0 | h0
    · exact rgo_nil84_Z a n c l k arg op w hl hn hn2 hk hk2 h0 (by omega)
    · exact rgo_84_Z a n c l k arg op w hl hn hn2 hk hk2 h0 (by omega)
theorem rgo_P (a : Option Addr) (n c : Nat) (l : List Int) (k : Nat) (arg : Int) (op : Bool) (w : World) (hl : Ints w a l) (hn : l.length = n) (hn2 : n ≤ 4096) (hk : k ≤ n) (hk2 : k < n ∨ n = 0) (m : Nat) (hm0 : 1 ≤ m) (hm1 : m ≤ 999) (key : Int) (hK : knownS key = true) :
    Calls Try.prog 82 #[.slice a n c, .int .i64 (k : Int), mvV key (m : Int) arg, .bool op] w (RGoPost (moS l k key (m : Int) arg op) w) := by
  have hn' : n = 0 ∨ 1 ≤ n := by omega
  rcases key_ways key with rfl | rfl | rfl | rfl | rfl | rfl | rfl | rfl | rfl | rfl | rfl | rfl | rfl | rfl | rfl | rfl | rfl | h
  case inr.inr.inr.inr.inr.inr.inr.inr.inr.inr.inr.inr.inr.inr.inr.inr.inr => rw [hK] at h; cases h
  · exact rgo_h_P a n c l k arg op w hl hn hn2 hk hk2 m hm0 hm1
  · exact rgo_l_P a n c l k arg op w hl hn hn2 hk hk2 m hm0 hm1
  · exact rgo_0_P a n c l k arg op w hl hn hn2 hk hk2 m hm0 hm1
  · exact rgo_first_P a n c l k arg op w hl hn hn2 hk hk2 m hm0 hm1
  · rcases hn' with h0 | h0
    · exact rgo_nil36_P a n c l k arg op w hl hn hn2 hk hk2 m hm0 hm1 h0 (by omega)
    · exact rgo_36_P a n c l k arg op w hl hn hn2 hk hk2 m hm0 hm1 h0 (by omega)
  · rcases hn' with h0 | h0
    · exact rgo_nil124_P a n c l k arg op w hl hn hn2 hk hk2 m hm0 hm1 h0 (by omega)
    · exact rgo_124_P a n c l k arg op w hl hn hn2 hk hk2 m hm0 hm1 h0 (by omega)
  · rcases hn' with h0 | h0
    · exact rgo_nil119_P a n c l k arg op w hl hn hn2 hk hk2 m hm0 hm1 h0 (by omega)
    · exact rgo_119_P a n c l k arg op w hl hn hn2 hk hk2 m hm0 hm1 h0 (by omega)
  · rcases hn' with h0 | h0
    · exact rgo_nil87_P a n c l k arg op w hl hn hn2 hk hk2 m hm0 hm1 h0 (by omega)
    · exact rgo_87_P a n c l k arg op w hl hn hn2 hk hk2 m hm0 hm1 h0 (by omega)
  · exact rgo_b_P a n c l k arg op w hl hn hn2 hk hk2 m hm0 hm1
  · exact rgo_B_P a n c l k arg op w hl hn hn2 hk hk2 m hm0 hm1
  · rcases hn' with h0 | h0
    · exact rgo_nil101_P a n c l k arg op w hl hn hn2 hk hk2 m hm0 hm1 h0 (by omega)
    · exact rgo_101_P a n c l k arg op w hl hn hn2 hk hk2 m hm0 hm1 h0 (by omega)
  · rcases hn' with h0 | h0
    · exact rgo_nil69_P a n c l k arg op w hl hn hn2 hk hk2 m hm0 hm1 h0 (by omega)
    · exact rgo_69_P a n c l k arg op w hl hn hn2 hk hk2 m hm0 hm1 h0 (by omega)
  · rcases hn' with h0 | h0
    · exact rgo_nil37_P a n c l k arg op w hl hn hn2 hk hk2 m hm0 hm1 h0 (by omega)
    · exact rgo_37_P a n c l k arg op w hl hn hn2 hk hk2 m hm0 hm1 h0 (by omega)
  · rcases hn' with h0 | h0
    · exact rgo_nil102_P a n c l k arg op w hl hn hn2 hk hk2 m hm0 hm1 h0 (by omega)
    · exact rgo_102_P a n c l k arg op w hl hn hn2 hk hk2 m hm0 hm1 h0 (by omega)
  · rcases hn' with h0 | h0
    · exact rgo_nil70_P a n c l k arg op w hl hn hn2 hk hk2 m hm0 hm1 h0 (by omega)
    · exact rgo_70_P a n c l k arg op w hl hn hn2 hk hk2 m hm0 hm1 h0 (by omega)
  · rcases hn' with h0 | h0
    · exact rgo_nil116_P a n c l k arg op w hl hn hn2 hk hk2 m hm0 hm1 h0 (by omega)
    · exact rgo_116_P a n c l k arg op w hl hn hn2 hk hk2 m hm0 hm1 h0 (by omega)
  · rcases hn' with h0 | h0
    · exact rgo_nil84_P a n c l k arg op w hl hn hn2 hk hk2 m hm0 hm1 h0 (by omega)
    · exact rgo_84_P a n c l k arg op w hl hn hn2 hk hk2 m hm0 hm1 h0 (by omega)
theorem ref_go (a : Option Addr) (n c : Nat) (l : List Int) (k key count arg : Int) (op : Bool) (w : World) (hl : Ints w a l) (hn : l.length = n) (hE : moveE l k key count = 0) :
    Calls Try.prog 82 #[.slice a n c, .int .i64 k, mvV key count arg, .bool op] w (RGoPost (moS l k.toNat key (max 1 count) arg op) w) := by
  obtain ⟨h1, h2, h3, h4, h5, h6⟩ := moveE_ok hE
  obtain ⟨k, rfl⟩ := Int.eq_ofNat_of_zero_le h2
  obtain ⟨m, rfl⟩ := Int.eq_ofNat_of_zero_le h4
  rw [Int.toNat_natCast]
  rcases (show m = 0 ∨ 1 ≤ m by omega) with rfl | hm
  · exact rgo_Z a n c l k arg op w hl hn (by omega) (by omega) (by omega) key h6
  · rw [show max 1 (m : Int) = (m : Int) from by omega]
    exact rgo_P a n c l k arg op w hl hn (by omega) (by omega) (by omega) m hm (by omega) key h6

/-- what the reference's Range answers -/
def RRaPost (F T : Int) (ok : Bool) (w : World) (e : Ending) (w' : World) : Prop := e = .returned (.tuple #[.int .i64 F, .int .i64 T, .bool ok]) ∧ Below w.heap.size w w'

theorem PartnerP.le {l : List Int} {n k : Nat} {r : Int} (h : PartnerP l n k r) (hk : k < n) : r < n := by
  unfold PartnerP at h
  split at h
  · omega
  · split at h
    · rcases h with ⟨t, h1, _, _, h2⟩ | ⟨_, h2⟩ <;> (try dsimp only at h2) <;> omega
    · rcases h with ⟨t, h1, _, _, h2⟩ | ⟨_, h2⟩ <;> (try dsimp only at h2) <;> omega

/-- the bounds of a motion's place -/
theorem moS_bd {l : List Int} {k : Nat} {key n arg : Int} {op : Bool} {x : Int} {b : Bool} (hk : k ≤ l.length) (hn : 1 ≤ n) (h : moS l k key n arg op = some (x, b)) : 0 ≤ x ∧ x ≤ l.length := by
  have hI : ∀ (f : Int → Int), (∀ y, 0 ≤ y → y ≤ (l.length : Int) → 0 ≤ f y ∧ f y ≤ (l.length : Int)) → 0 ≤ iterF f n.toNat k ∧ iterF f n.toNat k ≤ (l.length : Int) := fun f hf => iterF_bd (f := f) (lo := 0) (hi := l.length) hf (by omega) (by omega) _
  have hN := hI (nextF l (key == 87)) (fun y h0 h1 => nextF_bd l _ y h0 h1)
  have hB := hI (backF l (key == 66)) (fun y h0 h1 => backF_bd l _ y h0 h1)
  have hE := hI (endF l (key == 69)) (fun y h0 h1 => endF_bd l _ y h0 h1)
  unfold moS at h
  by_cases c1 : key = 104
  · rw [if_pos c1] at h
    by_cases c2 : k = 0
    · rw [if_pos c2] at h; cases h
    · rw [if_neg c2] at h; simp at h; omega
  rw [if_neg c1] at h
  clear c1
  by_cases c1 : key = 108
  · rw [if_pos c1] at h
    by_cases c2 : (if op = true then (l.length : Int) else l.length - 1) ≤ k
    · rw [if_pos c2] at h; cases h
    · rw [if_neg c2] at h
      cases op
      · simp at h c2; omega
      · simp at h c2; omega
  rw [if_neg c1] at h
  clear c1
  by_cases c1 : key = 48
  · rw [if_pos c1] at h
    simp at h; omega
  rw [if_neg c1] at h
  clear c1
  by_cases c1 : key = 94
  · rw [if_pos c1] at h
    simp at h
    have : 0 ≤ firstF l ∧ firstF l ≤ l.length := by
      unfold firstF
      split
      · rename_i r hr; have := seekUp_some hr; omega
      · omega
    omega
  rw [if_neg c1] at h
  clear c1
  by_cases c1 : key = 98 ∨ key = 66
  · rw [if_pos c1] at h
    by_cases c2 : k = 0
    · rw [if_pos c2] at h; cases h
    · rw [if_neg c2] at h; simp at h; omega
  rw [if_neg c1] at h
  clear c1
  by_cases c1 : key = 102 ∨ key = 116
  · rw [if_pos c1] at h
    rcases hy : (placesR l k arg)[n.toNat - 1]? with _ | y
    · rw [hy] at h; cases h
    · rw [hy] at h
      have hy := plU_in _ _ _ _ y (List.mem_of_getElem? hy)
      simp at h
      obtain ⟨h1, _⟩ := h
      split at h1 <;> omega
  rw [if_neg c1] at h
  clear c1
  by_cases c1 : key = 70 ∨ key = 84
  · rw [if_pos c1] at h
    rcases hy : (placesL l k arg)[n.toNat - 1]? with _ | y
    · rw [hy] at h; cases h
    · rw [hy] at h
      have hy := plD_in _ _ _ y (List.mem_of_getElem? hy)
      simp at h
      obtain ⟨h1, _⟩ := h
      split at h1 <;> omega
  rw [if_neg c1] at h
  clear c1
  by_cases c1 : l.length = 0
  · rw [if_pos c1] at h
    cases h
  rw [if_neg c1] at h
  by_cases c1 : key = 36
  · rw [if_pos c1] at h
    simp at h; omega
  rw [if_neg c1] at h
  clear c1
  by_cases c1 : key = 124
  · rw [if_pos c1] at h
    simp at h; omega
  rw [if_neg c1] at h
  clear c1
  by_cases c1 : key = 119 ∨ key = 87
  · rw [if_pos c1] at h
    cases op
    · simp only [Bool.false_eq_true, if_false] at h
      by_cases c2 : min (iterF (nextF l (key == 87)) n.toNat k) ((l.length : Int) - 1) = k
      · rw [if_pos c2] at h; cases h
      · rw [if_neg c2] at h; simp at h; omega
    · simp only [if_true] at h; simp at h; omega
  rw [if_neg c1] at h
  clear c1
  by_cases c1 : key = 101 ∨ key = 69
  · rw [if_pos c1] at h
    by_cases c2 : op = false ∧ iterF (endF l (key == 69)) n.toNat k = k
    · rw [if_pos c2] at h; cases h
    · rw [if_neg c2] at h; simp at h; omega
  rw [if_neg c1] at h
  clear c1
  by_cases c1 : partF l k < 0
  · rw [if_pos c1] at h
    cases h
  rw [if_neg c1] at h
  simp at h
  have : partF l k ≤ l.length := by
    unfold partF
    split
    · rename_i r hr
      have hr := seekUp_some hr
      have := PartnerP.le (pairs_partner l l.length r (by omega)) (by omega)
      omega
    · omega
  omega

end Go.Proofs.Ytbgbcmfgncneiaa
