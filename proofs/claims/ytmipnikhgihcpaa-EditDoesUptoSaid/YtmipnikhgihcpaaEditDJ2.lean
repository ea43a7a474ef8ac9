/- LiftEditDoes, part 2: joined from the texts WordS Word Word2 Word3 Word4 Dyck Dyck2 Dyck5 Dyck6 Dyck7 MapV Dyck8 DyckP DyckI MotS Mot1. No condition of its own. -/
import Derived.Test.YtmipnikhgihcpaaEditDJ1
import Derived.Deep.RegionHeld3
import Derived.Maps.Own
import Derived.Maps.Views
import Derived.Deep.DeepCutAuto
import Derived.Deep.CutBlock
set_option linter.unusedVariables false
set_option linter.unusedSimpArgs false
namespace Go.Proofs.Ytmipnikhgihcpaa
def kindS (c : Int) (big : Bool) : Int :=
 if c = 32 ∨ c = 9 then 0 else if big = true ∨ (97 ≤ c ∧ c ≤ 122) ∨ (65 ≤ c ∧ c ≤ 90) ∨ (48 ≤ c ∧ c ≤ 57) ∨ c = 95 ∨ 128 ≤ c then 1 else 2
theorem kindS_range (c : Int) (big : Bool) : 0 ≤ kindS c big ∧ kindS c big ≤ 2 := by unfold kindS; (repeat' split) <;> omega
def kAt (l : List Int) (big : Bool) (k : Int) : Int := if k < 0 ∨ l.length ≤ k then -1 else kindS (ix l k.toNat) big
theorem kAt_out {l : List Int} {big : Bool} {k : Int} (h : k < 0 ∨ l.length ≤ k) : kAt l big k = -1 := if_pos h
theorem kAt_in {l : List Int} {big : Bool} {k : Int} (h0 : 0 ≤ k) (h : k < l.length) : kAt l big k = kindS (ix l k.toNat) big := if_neg (by omega)
theorem kAt_nn {l : List Int} {big : Bool} {k : Int} (h0 : 0 ≤ k) (h : k < l.length) : 0 ≤ kAt l big k := by rw [kAt_in h0 h]; exact (kindS_range _ _).1
def OverUp (l : List Int) (big : Bool) (k kind r : Int) : Prop := k ≤ r ∧ (∀ j, k ≤ j → j < r → kAt l big j = kind) ∧ kAt l big r ≠ kind
def OverDown (l : List Int) (big : Bool) (k kind r : Int) : Prop := r ≤ k ∧ (∀ j, r < j → j ≤ k → kAt l big j = kind) ∧ kAt l big r ≠ kind
def Begins (l : List Int) (big : Bool) (i : Int) : Prop := kAt l big i ≠ 0 ∧ (i = 0 ∨ kAt l big (i - 1) ≠ kAt l big i)
def Ends (l : List Int) (big : Bool) (i : Int) : Prop := kAt l big i ≠ 0 ∧ kAt l big (i + 1) ≠ kAt l big i
def WordNext (l : List Int) (big : Bool) (k r : Int) : Prop :=
 ∃ k1, (0 < kAt l big k ∧ OverUp l big k (kAt l big k) k1 ∨ ¬ 0 < kAt l big k ∧ k1 = k) ∧ OverUp l big k1 0 r
def WordBack (l : List Int) (big : Bool) (k r : Int) : Prop :=
 ∃ k1, OverDown l big (k - 1) 0 k1 ∧ (k1 < 0 ∧ r = 0 ∨ 0 ≤ k1 ∧ OverDown l big k1 (kAt l big k1) (r - 1))
def WordEnd (l : List Int) (big : Bool) (k r : Int) : Prop :=
 ∃ k1, OverUp l big (k + 1) 0 k1 ∧ (l.length ≤ k1 ∧ r = max 0 ((l.length : Int) - 1) ∨ k1 < l.length ∧ OverUp l big k1 (kAt l big k1) (r + 1))
def RefNext (l : List Int) (big : Bool) (k r : Int) : Prop :=
 (k < r ∧ r < l.length ∧ Begins l big r ∨ r = l.length) ∧ ∀ j, k < j → j < r → j < l.length → ¬ Begins l big j
def RefBack (l : List Int) (big : Bool) (k r : Int) : Prop :=
 (0 < r ∧ r < k ∧ Begins l big r ∨ r = 0) ∧ ∀ j, r < j → j < k → 0 < j → ¬ Begins l big j
def RefEnd (l : List Int) (big : Bool) (k r : Int) : Prop :=
 (k < r ∧ r < l.length ∧ Ends l big r ∧ ∀ j, k < j → j < r → ¬ Ends l big j) ∨ (r = max 0 ((l.length : Int) - 1) ∧ ∀ j, k < j → j < l.length → ¬ Ends l big j)
theorem next_same {l : List Int} {big : Bool} {k r r' : Int} (h0 : 0 ≤ k) (hk : k ≤ l.length) (h : WordNext l big k r) (h' : RefNext l big k r') : r = r' := by
 obtain ⟨k1, h1, hu, hz, hne⟩ := h
 have hr : r ≤ l.length := by
  rcases Int.lt_or_le l.length r with hlt | hle
  ·by_cases hk1 : k1 ≤ l.length
   ·have := hz l.length hk1 hlt
    rw [kAt_out (.inr (Int.le_refl _))] at this; omega
   ·rcases h1 with ⟨hp, hu1, hs, hn1⟩ | ⟨_, rfl⟩
    ·have := hs l.length hk (by omega)
     rw [kAt_out (.inr (Int.le_refl _))] at this; omega
    ·omega
  ·exact hle
 have hk1 : k ≤ k1 := by rcases h1 with ⟨_, hu1, _⟩ | ⟨_, rfl⟩ <;> omega
 have hno : ∀ j, k < j → j < r → ¬ Begins l big j := by
  intro j hj hj2 hb
  by_cases hjk : k1 ≤ j
  ·exact hb.1 (hz j hjk hj2)
  ·rcases h1 with ⟨hp, hu1, hs, hn1⟩ | ⟨_, rfl⟩
   ·rcases hb.2 with h | h
    ·omega
    ·exact h (by rw [hs (j - 1) (by omega) (by omega), hs j (by omega) (by omega)])
   ·omega
 have hyes : r < l.length → k < r ∧ Begins l big r := by
  intro hlt
  have hkr : k < r := by
   rcases h1 with ⟨hp, hu1, hs, hn1⟩ | ⟨hp, rfl⟩
   ·rcases Int.lt_or_le k k1 with h | h
    ·omega
    ·have : k1 = k := by omega
     subst this; exact absurd rfl hn1
   ·rcases Int.lt_or_le k1 r with h | h
    ·exact h
    ·have : k1 = r := by omega
     subst this
     have := kAt_nn (l := l) (big := big) h0 hlt
     omega
  refine ⟨hkr, hne, .inr ?_⟩
  rcases Int.lt_or_le k1 r with h | h
  ·rw [hz (r - 1) (by omega) (by omega)]; exact fun e => hne e.symm
  ·have hk1r : k1 = r := by omega
   subst hk1r
   rcases h1 with ⟨hp, hu1, hs, hn1⟩ | ⟨hp, rfl⟩
   ·rw [hs (k1 - 1) (by omega) (by omega)]; exact fun e => hn1 e.symm
   ·omega
 obtain ⟨h1', h2'⟩ := h'
 rcases Int.lt_trichotomy r r' with hlt | rfl | hgt
 ·exfalso
  have hrl : r < l.length := by rcases h1' with ⟨_, h, _⟩ | h <;> omega
  exact h2' r (hyes hrl).1 hlt hrl (hyes hrl).2
 ·rfl
 ·exfalso
  rcases h1' with ⟨ha, hb, hc⟩ | h
  ·exact hno r' ha hgt hc
  ·omega
theorem back_same {l : List Int} {big : Bool} {k r r' : Int} (h0 : 0 ≤ k) (hk : k ≤ l.length) (h : WordBack l big k r) (h' : RefBack l big k r') : r = r' := by
 obtain ⟨k1, ⟨hu, hz, hne⟩, h1⟩ := h
 obtain ⟨h1', h2'⟩ := h'
 have hk1 : -1 ≤ k1 := by
  rcases Int.lt_or_le k1 (-1) with h | h
  ·have := hz (-1) h (by omega)
   rw [kAt_out (.inl (by omega))] at this; omega
  ·exact h
 rcases h1 with ⟨hk1n, rfl⟩ | ⟨hk1p, hu2, hz2, hne2⟩
 ·have : k1 = -1 := by omega
  subst this
  rcases h1' with ⟨ha, hb, hc, hd⟩ | h
  ·exact absurd (hz r' (by omega) (by omega)) hc
  ·exact h.symm
 ·have hr : 0 ≤ r := by
   rcases Int.lt_or_le r 0 with h | h
   ·have := hz2 (-1) (by omega) (by omega)
    rw [kAt_out (.inl (by omega))] at this
    have := kAt_nn (l := l) (big := big) hk1p (by omega)
    omega
   ·exact h
  have hrk : r ≤ k1 := by
   rcases Int.lt_or_le k1 r with h | h
   ·have : r - 1 = k1 := by omega
    rw [this] at hne2; exact absurd rfl hne2
   ·exact h
  have hkr : kAt l big r = kAt l big k1 := hz2 r (by omega) hrk
  have hno : ∀ j, r < j → j < k → ¬ Begins l big j := by
   intro j hj hj2 hb
   by_cases hjk : k1 < j
   ·exact hb.1 (hz j hjk (by omega))
   ·rcases hb.2 with h | h
    ·omega
    ·exact h (by rw [hz2 (j - 1) (by omega) (by omega), hz2 j (by omega) (by omega)])
  have hyes : 0 < r → Begins l big r := fun hp => ⟨by rw [hkr]; exact hne, .inr (by rw [hkr]; exact hne2)⟩
  rcases Int.lt_trichotomy r r' with hlt | rfl | hgt
  ·exfalso
   rcases h1' with ⟨ha, hb, hc⟩ | h
   ·exact hno r' hlt hb hc
   ·omega
  ·rfl
  ·exfalso
   exact h2' r hgt (by omega) (by rcases h1' with ⟨ha, _⟩ | h <;> omega) (hyes (by rcases h1' with ⟨ha, _⟩ | h <;> omega))
theorem end_same {l : List Int} {big : Bool} {k r r' : Int} (h0 : 0 ≤ k) (hk : k ≤ l.length) (h : WordEnd l big k r) (h' : RefEnd l big k r') : r = r' := by
 obtain ⟨k1, ⟨hu, hz, hne⟩, h1⟩ := h
 rcases h1 with ⟨hge, rfl⟩ | ⟨hlt, hu2, hz2, hne2⟩
 ·rcases h' with ⟨ha, hb, hc, _⟩ | ⟨rfl, _⟩
  ·exact absurd (hz r' (by omega) (by omega)) hc.1
  ·rfl
 ·have hk1p : 0 ≤ k1 := by omega
  have hrk : k1 ≤ r := by
   rcases Int.lt_or_le r k1 with h | h
   ·have : r + 1 = k1 := by omega
    rw [this] at hne2; exact absurd rfl hne2
   ·exact h
  have hrl : r < l.length := by
   rcases Int.lt_or_le r l.length with h | h
   ·exact h
   ·have := hz2 l.length (by omega) (by omega)
    rw [kAt_out (.inr (Int.le_refl _))] at this
    have := kAt_nn (l := l) (big := big) hk1p hlt
    omega
  have hkr : kAt l big r = kAt l big k1 := hz2 r hrk (by omega)
  have hyes : Ends l big r := ⟨by rw [hkr]; exact hne, by rw [hkr]; exact hne2⟩
  have hno : ∀ j, k < j → j < r → ¬ Ends l big j := by
   intro j hj hj2 hb
   by_cases hjk : j < k1
   ·exact hb.1 (hz j (by omega) hjk)
   ·exact hb.2 (by rw [hz2 (j + 1) (by omega) (by omega), hz2 j (by omega) (by omega)])
  rcases h' with ⟨ha, hb, hc, hd⟩ | ⟨rfl, hd⟩
  ·rcases Int.lt_trichotomy r r' with hl | rfl | hg
   ·exact absurd hyes (hd r (by omega) hl)
   ·rfl
   ·exact absurd hc (hno r' ha hg)
  ·exact absurd hyes (hd r (by omega) hrl)
end Go.Proofs.Ytmipnikhgihcpaa
namespace Go.Proofs.Ytmipnikhgihcpaa
open Go.RowKit
theorem word_kindOf (c : Int) (big : Bool) (w : World) :
  Calls Try.prog 124 #[.int .i64 c, .bool big] w fun e w' => e = .returned (.int .i64 (kindS c big)) ∧ w = w' := by
 cases big
 all_goals
  go_enter Try.func124, Try.ntmps124
  go_wp2
  all_goals (go_ret; refine ⟨ret1_int ?_, rfl⟩; unfold kindS; (repeat' split) <;> simp_all <;> omega)
set_option maxHeartbeats 2000000 in
theorem ref_kindOf (c : Int) (big : Bool) (w : World) :
  Calls Try.prog 260 #[.int .i64 c, .bool big] w fun e w' => e = .returned (.int .i64 (kindS c big)) ∧ w = w' := by
 have H : (32 ≤ c ∧ c ≤ 32) ∨ (9 ≤ c ∧ c ≤ 9) ∨ (97 ≤ c ∧ c ≤ 122) ∨ (65 ≤ c ∧ c ≤ 90) ∨ (48 ≤ c ∧ c ≤ 57) ∨ (95 ≤ c ∧ c ≤ 95) ∨ 128 ≤ c ∨ c ≤ 8 ∨ (10 ≤ c ∧ c ≤ 31) ∨ (33 ≤ c ∧ c ≤ 47) ∨ (58 ≤ c ∧ c ≤ 64) ∨ (91 ≤ c ∧ c ≤ 94) ∨ (96 ≤ c ∧ c ≤ 96) ∨ (123 ≤ c ∧ c ≤ 127) := by omega
 rcases H with h | h | h | h | h | h | h | h | h | h | h | h | h | h
 all_goals
  cases big
  all_goals
   go_enter Try.func260, Try.ntmps260
   go_wp2
   all_goals (go_ret; refine ⟨ret1_int ?_, rfl⟩; unfold kindS; (repeat' split) <;> first | rfl | omega | (simp_all; done) | (simp_all; omega))
set_option maxRecDepth 100000 in
theorem word_kind (a : Option Addr) (n c : Nat) (l : List Int) (big : Bool) (k : Int) (w : World) (hl : Ints w a l) (hn : l.length = n) (hn2 : n ≤ 9223372036854775807) :
  Calls Try.prog 289 #[.agg #[.slice a n c, .bool big], .int .i64 k] w fun e w' => e = .returned (.int .i64 (kAt l big k)) ∧ Below w.heap.size w w' := by
 by_cases h0 : k < 0
 ·rw [kAt_out (.inl h0)]
  go_enter Try.func289, Try.ntmps289
  go_wp2
  go_ret
  exact ⟨rfl, below1 _ _⟩
 ·by_cases h1 : (n : Int) ≤ k
  ·rw [kAt_out (.inr (by omega))]
   have HN := Lib.hid hn; clear hn
   go_enter Try.func289, Try.ntmps289
   go_wp2
   go_ret
   exact ⟨rfl, below1 _ _⟩
  ·obtain ⟨j, rfl⟩ := Int.eq_ofNat_of_zero_le (show 0 ≤ k by omega)
   obtain ⟨b1, o1, rfl, hc⟩ := hl.at (k := j) (by omega)
   have e1 := hc j (by omega)
   have hb := cell_lt e1
   rw [kAt_in (by omega) (by omega), show ((j : Int)).toNat = j from rfl]
   have HN := Lib.hid hn; clear hn hc hl
   have i1 : (j : Int) < (n : Int) := by omega
   have i2 : b1 < w.heap.size := hb
   go_enter Try.func289, Try.ntmps289
   go_wp2
   go_quiet ((go_at_call 124; exact Calls.quiet_of_same ((word_kindOf _ _ _).mono fun _ _ ⟨h, h'⟩ => ⟨h, h'.symm⟩)))
   go_wp2
   go_ret
   exact ⟨rfl, below_drewN (below1 _ _) _⟩
def UpPost (l : List Int) (big : Bool) (k kind : Int) (w : World) (e : Ending) (w' : World) : Prop :=
 ∃ r : Int, e = .returned (.int .i64 r) ∧ OverUp l big k kind r ∧ r ≤ max k l.length ∧ Below w.heap.size w w'
def DownPost (l : List Int) (big : Bool) (k kind : Int) (w : World) (e : Ending) (w' : World) : Prop :=
 ∃ r : Int, e = .returned (.int .i64 r) ∧ OverDown l big k kind r ∧ min k (-1) ≤ r ∧ Below w.heap.size w w'
set_option maxRecDepth 100000 in
theorem word_overUp (a : Option Addr) (n c : Nat) (l : List Int) (big : Bool) (k kind : Int) (w : World) (hl : Ints w a l) (hn : l.length = n) (hn2 : n ≤ 4096) (hk0 : 0 ≤ k) (hk1 : k ≤ n + 1) (hkind : 0 ≤ kind) :
  Calls Try.prog 288 #[.agg #[.slice a n c, .bool big], .int .i64 k, .int .i64 1, .int .i64 kind] w (UpPost l big k kind w) := by
 have HN := Lib.hid hn; clear hn
 go_enter Try.func288, Try.ntmps288
 go_wp2
 go_loopw [1] (fun v wr => ∃ j : Int, v = .int .i64 j ∧ k ≤ j ∧ j ≤ max k n ∧ (∀ i, k ≤ i → i < j → kAt l big i = kind) ∧ Blk wr w.heap.size #[.slice a n c, .bool big] 359 ∧ Below w.heap.size w wr ∧ w.heap.size + 1 ≤ wr.heap.size) (fun v _ => (n + 1 - intOf v).toNat)
 case atStart => exact ⟨k, rfl, by omega, by omega, fun i h1 h2 => by omega, Blk.new _ _ _, below1 _ _, by simp⟩
 case round =>
  obtain ⟨j, rfl, hj0, hj1, hall, hB, hbel, hsz⟩ := hrel
  have HA := Lib.hid hall; clear hall
  obtain ⟨c0, c1, -, -⟩ := hB.two
  go_wp2_with fail
  refine (word_kind a n c l big j wr (hl.below hbel) HN.out (by omega)).mono ?_
  rintro e w1 ⟨rfl, hb1⟩
  by_cases hk : kAt l big j = kind
  ·have hkb : (kAt l big j == kind) = true := by simpa using hk
   have hjn : j < n := by
    rcases Int.lt_or_le j n with h | h
    ·exact h
    ·rw [kAt_out (.inr (by rw [HN.out]; exact h))] at hk; omega
   have HK := Lib.hid hk; clear hk
   go_wp2
   go_roundw
   case rel => exact ⟨j + 1, rfl, by omega, by omega, fun i h1 h2 => by
    rcases Int.lt_or_le i j with h | h
    ·exact HA.out i h1 h
    ·rw [show i = j from by omega]; exact HK.out, hB.below hb1 (by omega), below_then hbel hbel.size hb1, by have := hb1.size; omega⟩
   case measure => simp [intOf]; omega
  ·have hkb : (kAt l big j == kind) = false := by simpa using hk
   have HK := Lib.hid hk; clear hk
   go_wp2
   go_ret
   exact ⟨j, rfl, ⟨hj0, HA.out, HK.out⟩, by rw [HN.out]; omega, below_then hbel hbel.size hb1⟩
set_option maxRecDepth 100000 in
theorem word_overDown (a : Option Addr) (n c : Nat) (l : List Int) (big : Bool) (k kind : Int) (w : World) (hl : Ints w a l) (hn : l.length = n) (hn2 : n ≤ 4096) (hk0 : -1 ≤ k) (hk1 : k ≤ n) (hkind : 0 ≤ kind) :
  Calls Try.prog 288 #[.agg #[.slice a n c, .bool big], .int .i64 k, .int .i64 (-1), .int .i64 kind] w (DownPost l big k kind w) := by
 have HN := Lib.hid hn; clear hn
 go_enter Try.func288, Try.ntmps288
 go_wp2
 go_loopw [1] (fun v wr => ∃ j : Int, v = .int .i64 j ∧ j ≤ k ∧ -1 ≤ j ∧ (∀ i, j < i → i ≤ k → kAt l big i = kind) ∧ Blk wr w.heap.size #[.slice a n c, .bool big] 359 ∧ Below w.heap.size w wr ∧ w.heap.size + 1 ≤ wr.heap.size) (fun v _ => (intOf v + 1).toNat)
 case atStart => exact ⟨k, rfl, by omega, by omega, fun i h1 h2 => by omega, Blk.new _ _ _, below1 _ _, by simp⟩
 case round =>
  obtain ⟨j, rfl, hj0, hj1, hall, hB, hbel, hsz⟩ := hrel
  have HA := Lib.hid hall; clear hall
  obtain ⟨c0, c1, -, -⟩ := hB.two
  go_wp2_with fail
  refine (word_kind a n c l big j wr (hl.below hbel) HN.out (by omega)).mono ?_
  rintro e w1 ⟨rfl, hb1⟩
  by_cases hk : kAt l big j = kind
  ·have hkb : (kAt l big j == kind) = true := by simpa using hk
   have hjn : 0 ≤ j := by
    rcases Int.lt_or_le j 0 with h | h
    ·rw [kAt_out (.inl h)] at hk; omega
    ·exact h
   have HK := Lib.hid hk; clear hk
   go_wp2
   go_roundw
   case rel => exact ⟨j + -1, rfl, by omega, by omega, fun i h1 h2 => by
    rcases Int.lt_or_le j i with h | h
    ·exact HA.out i h h2
    ·rw [show i = j from by omega]; exact HK.out, hB.below hb1 (by omega), below_then hbel hbel.size hb1, by have := hb1.size; omega⟩
   case measure => simp [intOf]; omega
  ·have hkb : (kAt l big j == kind) = false := by simpa using hk
   have HK := Lib.hid hk; clear hk
   go_wp2
   go_ret
   exact ⟨j, rfl, ⟨hj0, HA.out, HK.out⟩, by omega, below_then hbel hbel.size hb1⟩
def wordErr (n : Nat) (k : Int) : Int := if 4096 < n then 2 else if k < 0 ∨ (n : Int) < k then 1 else 0
theorem word_right (a : Option Addr) (n c : Nat) (k : Int) (w : World) :
  Calls Try.prog 287 #[.slice a n c, .int .i64 k] w fun e w' => e = .returned (.int .i64 (wordErr n k)) ∧ w = w' := by
 go_enter Try.func287, Try.ntmps287
 go_wp2
 all_goals (go_ret; refine ⟨ret1_int ?_, rfl⟩; unfold wordErr; (repeat' split) <;> first | rfl | omega)
def IntErr (P : Int → Prop) (w : World) (e : Ending) (w' : World) : Prop := ∃ r : Int, e = .returned (.tuple #[.int .i64 r, .int .i64 0]) ∧ P r ∧ Below w.heap.size w w'
theorem wordErr_ok {n : Nat} {k : Int} (h : n ≤ 4096) (h0 : 0 ≤ k) (h1 : k ≤ n) : wordErr n k = 0 := by
 unfold wordErr; rw [if_neg (by omega), if_neg (by omega)]
theorem word_right_ok (a : Option Addr) (n c : Nat) (k : Int) (w : World) (h : n ≤ 4096) (h0 : 0 ≤ k) (h1 : k ≤ n) :
  Calls Try.prog 287 #[.slice a n c, .int .i64 k] w fun e w' => e = .returned (.int .i64 0) ∧ w = w' := by
 have := word_right a n c k w
 rwa [wordErr_ok h h0 h1] at this
set_option maxRecDepth 100000 in
theorem word_next_ok (a : Option Addr) (n c : Nat) (l : List Int) (big : Bool) (k : Int) (w : World) (hl : Ints w a l) (hn : l.length = n) (hn2 : n ≤ 4096) (hk0 : 0 ≤ k) (hk1 : k ≤ n) :
  Calls Try.prog 290 #[.slice a n c, .int .i64 k, .bool big] w (IntErr (WordNext l big k) w) := by
 have HN := Lib.hid hn; clear hn
 go_enter Try.func290, Try.ntmps290
 go_wp2_with fail
 refine (word_right_ok a n c k w hn2 hk0 hk1).mono ?_
 rintro e w' ⟨rfl, rfl⟩
 go_wp2_with fail
 have hB0 := Blk.new w #[.slice a n c, .bool big] 359
 refine (word_kind a n c l big k _ (hl.below (below1 _ _)) HN.out (by omega)).mono ?_
 rintro e w1 ⟨rfl, hb1⟩
 have hB1 := hB0.below hb1 hB0.lt
 obtain ⟨c0, c1, -, -⟩ := hB1.two
 have hbel1 := below_then (below1 w _) (by simp) hb1
 by_cases hp : 0 < kAt l big k
 ·go_wp2_with fail
  refine (word_overUp a n c l big k (kAt l big k) w1 (hl.below hbel1) HN.out hn2 hk0 (by omega) (by omega)).mono ?_
  rintro e w2 ⟨r, rfl, hu, hr, hb2⟩
  rw [HN.out] at hr
  have hB2 := hB1.below hb2 hB1.lt
  obtain ⟨d0, d1, -, -⟩ := hB2.two
  have hbel2 := below_then hbel1 hbel1.size hb2
  have HU := Lib.hid hu; have hkr := hu.1; clear hu
  go_wp2_with fail
  refine (word_overUp a n c l big r 0 w2 (hl.below hbel2) HN.out hn2 (by omega) (by omega) (by omega)).mono ?_
  rintro e w3 ⟨r2, rfl, hu2, hr2, hb3⟩
  have HU2 := Lib.hid hu2; clear hu2
  go_wp2
  go_ret2
  exact ⟨r2, rfl, ⟨r, .inl ⟨hp, HU.out⟩, HU2.out⟩, below_then hbel2 hbel2.size hb3⟩
 ·go_wp2_with fail
  refine (word_overUp a n c l big k 0 w1 (hl.below hbel1) HN.out hn2 (by omega) (by omega) (by omega)).mono ?_
  rintro e w3 ⟨r2, rfl, hu2, hr2, hb3⟩
  have HU2 := Lib.hid hu2; clear hu2
  go_wp2
  go_ret2
  exact ⟨r2, rfl, ⟨k, .inr ⟨by omega, rfl⟩, HU2.out⟩, below_then hbel1 hbel1.size hb3⟩
theorem keepW {B : Nat} {u v : Value} {w2 w' w'' : World} (h : w'.cell? ⟨B, 0, none⟩ = some u ∧ w'.cell? ⟨B, 1, none⟩ = some v ∧ Below w2.heap.size w2 w') (hb : Below w'.heap.size w' w'') :
  w''.cell? ⟨B, 0, none⟩ = some u ∧ w''.cell? ⟨B, 1, none⟩ = some v ∧ Below w2.heap.size w2 w'' :=
 ⟨below_keeps hb _ _ h.1, below_keeps hb _ _ h.2.1, below_then h.2.2 h.2.2.size hb⟩
set_option maxRecDepth 100000 in
theorem word_back_ok (a : Option Addr) (n c : Nat) (l : List Int) (big : Bool) (k : Int) (w : World) (hl : Ints w a l) (hn : l.length = n) (hn2 : n ≤ 4096) (hk0 : 0 ≤ k) (hk1 : k ≤ n) :
  Calls Try.prog 271 #[.slice a n c, .int .i64 k, .bool big] w (IntErr (WordBack l big k) w) := by
 have HN := Lib.hid hn; clear hn
 go_enter Try.func271, Try.ntmps271
 go_wp2_with fail
 refine (word_right_ok a n c k w hn2 hk0 hk1).mono ?_
 rintro e w' ⟨rfl, rfl⟩
 go_wp2_with fail
 have hB0 := Blk.new w #[.slice a n c, .bool big] 359
 refine (word_overDown a n c l big (k - 1) 0 _ (hl.below (below1 _ _)) HN.out (by omega) (by omega) (by omega) (by omega)).mono ?_
 rintro e w1 ⟨k1, rfl, hu, hr, hb1⟩
 have hB1 := hB0.below hb1 hB0.lt
 obtain ⟨c0, c1, -, -⟩ := hB1.two
 have hbel1 := below_then (below1 w _) (by simp) hb1
 have HU := Lib.hid hu; have hkr := hu.1; clear hu
 by_cases hp : k1 < 0
 ·go_wp2
  go_ret2
  exact ⟨0, rfl, ⟨k1, HU.out, .inl ⟨hp, rfl⟩⟩, hbel1⟩
 ·have hkk : 0 ≤ kAt l big k1 := kAt_nn (by omega) (by rw [HN.out]; omega)
  have hl1 := hl.below hbel1
  go_wp2_with fail
  go_region_held3 (fun w' => w'.cell? ⟨w.heap.size, 0, none⟩ = some (.slice a n c) ∧ w'.cell? ⟨w.heap.size, 1, none⟩ = some (.bool big) ∧ Below w1.heap.size w1 w') (first | exact ⟨c0, c1, (Below.refl _ _).drew⟩ | assumption | exact keepW ‹_› ‹_›)
   (first | (go_at_call 289; refine (word_kind a n c l big k1 _ (hl1.below (And.right (And.right ‹_›))) HN.out (by omega)).mono ?_; rintro e w2 ⟨rfl, hb2⟩) | (go_at_call 288; refine (word_overDown a n c l big k1 (kAt l big k1) _ (hl1.below (And.right (And.right ‹_›))) HN.out (by omega) (by omega) (by omega) hkk).mono ?_; rintro e w3 ⟨r, rfl, hu3, hr3, hb3⟩; have HU3 := Lib.hid hu3; have hur := hu3.1; clear hu3))
  all_goals
   go_wp2
   go_ret2
   refine ⟨r + 1, ret2_int (IntWalk.i64_in _ (by omega)) rfl, ⟨k1, HU.out, .inr ⟨by omega, ?_⟩⟩, below_then hbel1 hbel1.size (And.right (And.right ‹_›))⟩
   rw [show r + 1 - 1 = r from by omega]; exact HU3.out
set_option maxRecDepth 100000 in
theorem word_end_ok (a : Option Addr) (n c : Nat) (l : List Int) (big : Bool) (k : Int) (w : World) (hl : Ints w a l) (hn : l.length = n) (hn2 : n ≤ 4096) (hk0 : 0 ≤ k) (hk1 : k ≤ n) :
  Calls Try.prog 291 #[.slice a n c, .int .i64 k, .bool big] w (IntErr (WordEnd l big k) w) := by
 have HN := Lib.hid hn; clear hn
 go_enter Try.func291, Try.ntmps291
 go_wp2_with fail
 refine (word_right_ok a n c k w hn2 hk0 hk1).mono ?_
 rintro e w' ⟨rfl, rfl⟩
 go_wp2_with fail
 have hB0 := Blk.new w #[.slice a n c, .bool big] 359
 refine (word_overUp a n c l big (k + 1) 0 _ (hl.below (below1 _ _)) HN.out (by omega) (by omega) (by omega) (by omega)).mono ?_
 rintro e w1 ⟨k1, rfl, hu, hr, hb1⟩
 have hB1 := hB0.below hb1 hB0.lt
 obtain ⟨c0, c1, -, -⟩ := hB1.two
 have hbel1 := below_then (below1 w _) (by simp) hb1
 have HU := Lib.hid hu; have hkr := hu.1; clear hu
 rw [HN.out] at hr
 by_cases hp : (n : Int) ≤ k1
 ·go_wp2
  all_goals
   go_ret2
   exact ⟨max 0 ((n : Int) - 1), ret2_int (by omega) rfl, ⟨k1, HU.out, .inl ⟨by rw [HN.out]; exact hp, by rw [HN.out]⟩⟩, hbel1⟩
 ·have hkk : 0 ≤ kAt l big k1 := kAt_nn (by omega) (by rw [HN.out]; omega)
  have hl1 := hl.below hbel1
  go_wp2_with fail
  go_region_held3 (fun w' => w'.cell? ⟨w.heap.size, 0, none⟩ = some (.slice a n c) ∧ w'.cell? ⟨w.heap.size, 1, none⟩ = some (.bool big) ∧ Below w1.heap.size w1 w') (first | exact ⟨c0, c1, (Below.refl _ _).drew⟩ | assumption | exact keepW ‹_› ‹_›)
   (first | (go_at_call 289; refine (word_kind a n c l big k1 _ (hl1.below (And.right (And.right ‹_›))) HN.out (by omega)).mono ?_; rintro e w2 ⟨rfl, hb2⟩) | (go_at_call 288; refine (word_overUp a n c l big k1 (kAt l big k1) _ (hl1.below (And.right (And.right ‹_›))) HN.out (by omega) (by omega) (by omega) hkk).mono ?_; rintro e w3 ⟨r, rfl, hu3, hr3, hb3⟩; have HU3 := Lib.hid hu3; have hur := hu3.1; clear hu3))
  all_goals
   rw [HN.out] at hr3
   go_wp2
   go_ret2
   refine ⟨r - 1, ret2_int (IntWalk.i64_in _ (by omega)) rfl, ⟨k1, HU.out, .inr ⟨by rw [HN.out]; omega, ?_⟩⟩, below_then hbel1 hbel1.size (And.right (And.right ‹_›))⟩
   rw [show r - 1 + 1 = r from by omega]; exact HU3.out
def beginsB (l : List Int) (big : Bool) (i : Int) : Bool := kAt l big i != 0 && (i == 0 || kAt l big (i - 1) != kAt l big i)
def endsB (l : List Int) (big : Bool) (i : Int) : Bool := kAt l big i != 0 && kAt l big (i + 1) != kAt l big i
theorem beginsB_iff (l : List Int) (big : Bool) (i : Int) : beginsB l big i = true ↔ Begins l big i := by simp [beginsB, Begins]
theorem endsB_iff (l : List Int) (big : Bool) (i : Int) : endsB l big i = true ↔ Ends l big i := by simp [endsB, Ends]
theorem ref_begins (a : Option Addr) (n c : Nat) (l : List Int) (big : Bool) (k : Nat) (w : World) (hl : Ints w a l) (hn : l.length = n) (hn2 : n ≤ 4096) (hk : k < n) :
  Calls Try.prog 237 #[.slice a n c, .int .i64 k, .bool big] w fun e w' => e = .returned (.bool (beginsB l big k)) ∧ w = w' := by
 obtain ⟨b1, o1, rfl, hc⟩ := hl.at (k := k) (by omega)
 have e1 := hc k (by omega)
 have i1 : (k : Int) < (n : Int) := by omega
 have q1 := kAt_in (l := l) (big := big) (k := k) (by omega) (by omega)
 simp only [Int.toNat_natCast] at q1
 by_cases hz : kindS (ix l k) big = 0
 ·have HB : beginsB l big k = false := by unfold beginsB; rw [q1, hz]; simp
  rw [HB]
  have HZ := Lib.hid hz; clear hz HB q1 hc hl hn
  go_enter Try.func237, Try.ntmps237
  go_wp2_with fail
  refine (ref_kindOf _ _ _).mono ?_
  rintro e w' ⟨rfl, rfl⟩
  rw [HZ.out]
  go_wp2
  go_ret
  exact ⟨rfl, rfl⟩
 ·have hzb : (kindS (ix l k) big != 0) = true := by simpa using hz
  by_cases h0 : k = 0
  ·subst h0
   simp only [Nat.add_zero] at e1
   have HB : beginsB l big ((0 : Nat) : Int) = true := by unfold beginsB; rw [q1]; simpa using hz
   rw [HB]
   have HZ := Lib.hid hz; clear hz HB q1 hc hl hn
   go_enter Try.func237, Try.ntmps237
   go_wp2_with fail
   refine (ref_kindOf _ _ _).mono ?_
   rintro e w' ⟨rfl, rfl⟩
   go_wp2
   go_ret
   exact ⟨rfl, rfl⟩
  ·have e2 := hc (k - 1) (by omega)
   obtain ⟨j, rfl⟩ : ∃ j, k = j + 1 := ⟨k - 1, by omega⟩
   have q2 := kAt_in (l := l) (big := big) (k := j) (by omega) (by omega)
   simp only [Int.toNat_natCast] at q2
   simp only [Nat.add_sub_cancel] at e2
   have i2 : (j : Int) < (n : Int) := by omega
   have HB : beginsB l big ((j + 1 : Nat) : Int) = (kindS (ix l j) big != kindS (ix l (j + 1)) big) := by
    unfold beginsB
    rw [q1, show (((j + 1 : Nat) : Int) - 1) = (j : Int) from by omega, q2, hzb, Bool.true_and, beq_eq_false_iff_ne.2 (by omega), Bool.false_or]
   rw [HB]
   have HZ := Lib.hid hz; clear hz HB q1 q2 hc hl hn h0
   go_enter Try.func237, Try.ntmps237
   go_wp2_with fail
   refine (ref_kindOf _ _ _).mono ?_
   rintro e w' ⟨rfl, rfl⟩
   go_wp2_with fail
   refine (ref_kindOf _ _ _).mono ?_
   rintro e w' ⟨rfl, rfl⟩
   go_wp2
   go_ret
   exact ⟨rfl, rfl⟩
theorem ref_ends (a : Option Addr) (n c : Nat) (l : List Int) (big : Bool) (k : Nat) (w : World) (hl : Ints w a l) (hn : l.length = n) (hn2 : n ≤ 4096) (hk : k < n) :
  Calls Try.prog 238 #[.slice a n c, .int .i64 k, .bool big] w fun e w' => e = .returned (.bool (endsB l big k)) ∧ w = w' := by
 obtain ⟨b1, o1, rfl, hc⟩ := hl.at (k := k) (by omega)
 have e1 := hc k (by omega)
 have i1 : (k : Int) < (n : Int) := by omega
 have q1 := kAt_in (l := l) (big := big) (k := k) (by omega) (by omega)
 simp only [Int.toNat_natCast] at q1
 by_cases hz : kindS (ix l k) big = 0
 ·have HB : endsB l big k = false := by unfold endsB; rw [q1, hz]; simp
  rw [HB]
  have HZ := Lib.hid hz; clear hz HB q1 hc hl hn
  go_enter Try.func238, Try.ntmps238
  go_wp2_with fail
  refine (ref_kindOf _ _ _).mono ?_
  rintro e w' ⟨rfl, rfl⟩
  rw [HZ.out]
  go_wp2
  go_ret
  exact ⟨rfl, rfl⟩
 ·have hzb : (kindS (ix l k) big != 0) = true := by simpa using hz
  have hge := (kindS_range (ix l k) big).1
  by_cases h0 : k + 1 = n
  ·have HB : endsB l big k = true := by
    unfold endsB; rw [q1, hzb, kAt_out (.inr (by omega))]; simp; omega
   rw [HB]
   have hlast : ((k : Int) == (n : Int) - 1) = true := by simp; omega
   have HZ := Lib.hid hz; have H0 := Lib.hid h0; clear hz HB q1 hc hl hn h0
   go_enter Try.func238, Try.ntmps238
   go_wp2_with fail
   refine (ref_kindOf _ _ _).mono ?_
   rintro e w' ⟨rfl, rfl⟩
   go_wp2
   go_ret
   exact ⟨rfl, rfl⟩
  ·have e2 := hc (k + 1) (by omega)
   have q2 := kAt_in (l := l) (big := big) (k := (k : Int) + 1) (by omega) (by omega)
   rw [show (((k : Int) + 1).toNat) = k + 1 from by omega] at q2
   have i2 : (k : Int) + 1 < (n : Int) := by omega
   have hlast : ((k : Int) == (n : Int) - 1) = false := by simp; omega
   have HB : endsB l big k = (kindS (ix l (k + 1)) big != kindS (ix l k) big) := by
    unfold endsB
    rw [q1, q2, hzb, Bool.true_and]
   rw [HB]
   have HZ := Lib.hid hz; clear hz HB q1 q2 hc hl hn h0
   go_enter Try.func238, Try.ntmps238
   go_wp2_with fail
   refine (ref_kindOf _ _ _).mono ?_
   rintro e w' ⟨rfl, rfl⟩
   go_wp2_with fail
   refine (ref_kindOf _ _ _).mono ?_
   rintro e w' ⟨rfl, rfl⟩
   go_wp2
   go_ret
   exact ⟨rfl, rfl⟩
def RefPost (P : Int → Prop) (w : World) (e : Ending) (w' : World) : Prop := ∃ r : Int, e = .returned (.int .i64 r) ∧ P r ∧ w = w'
theorem ref_next (a : Option Addr) (n c : Nat) (l : List Int) (big : Bool) (k : Int) (w : World) (hl : Ints w a l) (hn : l.length = n) (hn2 : n ≤ 4096) (hk0 : 0 ≤ k) (hk1 : k ≤ n) :
  Calls Try.prog 190 #[.slice a n c, .int .i64 k, .bool big] w (RefPost (RefNext l big k) w) := by
 have HN := Lib.hid hn; clear hn
 obtain ⟨k, rfl⟩ := Int.eq_ofNat_of_zero_le hk0
 go_enter Try.func190, Try.ntmps190
 go_wp2
 go_loop [7] (fun v => ∃ j : Nat, v = .int .i64 ((j : Nat) : Int) ∧ k + 1 ≤ j ∧ (j ≤ n ∨ j = k + 1) ∧ ∀ i : Int, k < i → i < j → i < l.length → ¬ Begins l big i) (fun v => (n - intOf v).toNat)
 case atStart => exact ⟨k + 1, by simp, by omega, by omega, fun i h1 h2 => by omega⟩
 case round =>
  obtain ⟨j, rfl, hj, hj2, hno⟩ := hrel
  have HO := Lib.hid hno; clear hno
  by_cases hlt : j < n
  ·go_wp2_with fail
   refine (ref_begins a n c l big j w hl HN.out hn2 hlt).mono ?_
   rintro e w' ⟨rfl, rfl⟩
   by_cases hb : beginsB l big j = true
   ·have HB := Lib.hid ((beginsB_iff l big j).1 hb)
    rw [hb]; clear hb
    go_wp2
    go_ret
    exact ⟨_, rfl, ⟨.inl ⟨by omega, by rw [HN.out]; omega, HB.out⟩, HO.out⟩, rfl⟩
   ·have HB := Lib.hid (mt (beginsB_iff l big j).2 hb)
    rw [Bool.not_eq_true] at hb
    rw [hb]; clear hb
    go_wp2
    go_round
    case rel => exact ⟨j + 1, by go_num, by omega, by omega, fun i h1 h2 h3 => by
     rcases Int.lt_or_le i j with h | h
     ·exact HO.out i h1 h h3
     ·rw [show i = j from by omega]; exact HB.out⟩
    case measure => simp [intOf]; omega
  ·go_wp2
   go_ret
   exact ⟨_, rfl, ⟨.inr (by rw [HN.out]), fun i h1 h2 h3 => HO.out i h1 (by omega) h3⟩, rfl⟩
theorem ref_back (a : Option Addr) (n c : Nat) (l : List Int) (big : Bool) (k : Int) (w : World) (hl : Ints w a l) (hn : l.length = n) (hn2 : n ≤ 4096) (hk0 : 0 ≤ k) (hk1 : k ≤ n) :
  Calls Try.prog 188 #[.slice a n c, .int .i64 k, .bool big] w (RefPost (RefBack l big k) w) := by
 have HN := Lib.hid hn; clear hn
 go_enter Try.func188, Try.ntmps188
 go_wp2
 go_loop [7] (fun v => ∃ j : Int, v = .int .i64 j ∧ j ≤ k - 1 ∧ -1 ≤ j ∧ ∀ i : Int, j < i → i < k → 0 < i → ¬ Begins l big i) (fun v => (intOf v).toNat)
 case atStart => exact ⟨k - 1, rfl, by omega, by omega, fun i h1 h2 => by omega⟩
 case round =>
  obtain ⟨j, rfl, hj, hj2, hno⟩ := hrel
  have HO := Lib.hid hno; clear hno
  by_cases hlt : 0 < j
  ·obtain ⟨m, rfl⟩ := Int.eq_ofNat_of_zero_le (show 0 ≤ j by omega)
   go_wp2_with fail
   refine (ref_begins a n c l big m w hl HN.out hn2 (by omega)).mono ?_
   rintro e w' ⟨rfl, rfl⟩
   by_cases hb : beginsB l big m = true
   ·have HB := Lib.hid ((beginsB_iff l big m).1 hb)
    rw [hb]; clear hb
    go_wp2
    go_ret
    exact ⟨_, rfl, ⟨.inl ⟨by omega, by omega, HB.out⟩, HO.out⟩, rfl⟩
   ·have HB := Lib.hid (mt (beginsB_iff l big m).2 hb)
    rw [Bool.not_eq_true] at hb
    rw [hb]; clear hb
    go_wp2
    go_round
    case rel => exact ⟨(m : Int) - 1, rfl, by omega, by omega, fun i h1 h2 h3 => by
     rcases Int.lt_or_le m i with h | h
     ·exact HO.out i h h2 h3
     ·rw [show i = m from by omega]; exact HB.out⟩
    case measure => simp [intOf]; omega
  ·go_wp2
   go_ret
   exact ⟨_, rfl, ⟨.inr rfl, fun i h1 h2 h3 => HO.out i (by omega) h2 h3⟩, rfl⟩
theorem ref_end (a : Option Addr) (n c : Nat) (l : List Int) (big : Bool) (k : Int) (w : World) (hl : Ints w a l) (hn : l.length = n) (hn2 : n ≤ 4096) (hk0 : 0 ≤ k) (hk1 : k ≤ n) :
  Calls Try.prog 192 #[.slice a n c, .int .i64 k, .bool big] w (RefPost (RefEnd l big k) w) := by
 have HN := Lib.hid hn; clear hn
 obtain ⟨k, rfl⟩ := Int.eq_ofNat_of_zero_le hk0
 go_enter Try.func192, Try.ntmps192
 go_wp2
 go_loop [7] (fun v => ∃ j : Nat, v = .int .i64 ((j : Nat) : Int) ∧ k + 1 ≤ j ∧ (j ≤ n ∨ j = k + 1) ∧ ∀ i : Int, k < i → i < j → i < l.length → ¬ Ends l big i) (fun v => (n - intOf v).toNat)
 case atStart => exact ⟨k + 1, by simp, by omega, by omega, fun i h1 h2 => by omega⟩
 case round =>
  obtain ⟨j, rfl, hj, hj2, hno⟩ := hrel
  have HO := Lib.hid hno; clear hno
  by_cases hlt : j < n
  ·go_wp2_with fail
   refine (ref_ends a n c l big j w hl HN.out hn2 hlt).mono ?_
   rintro e w' ⟨rfl, rfl⟩
   by_cases hb : endsB l big j = true
   ·have HB := Lib.hid ((endsB_iff l big j).1 hb)
    rw [hb]; clear hb
    go_wp2
    go_ret
    exact ⟨_, rfl, .inl ⟨by omega, by rw [HN.out]; omega, HB.out, fun i h1 h2 => HO.out i h1 h2 (by rw [HN.out]; omega)⟩, rfl⟩
   ·have HB := Lib.hid (mt (endsB_iff l big j).2 hb)
    rw [Bool.not_eq_true] at hb
    rw [hb]; clear hb
    go_wp2
    go_round
    case rel => exact ⟨j + 1, by go_num, by omega, by omega, fun i h1 h2 h3 => by
     rcases Int.lt_or_le i j with h | h
     ·exact HO.out i h1 h h3
     ·rw [show i = j from by omega]; exact HB.out⟩
    case measure => simp [intOf]; omega
  ·go_wp2
   all_goals
    go_ret
    exact ⟨max 0 ((n : Int) - 1), ret1_int (by omega), .inr ⟨by rw [HN.out], fun i h1 h2 => HO.out i h1 (by rw [HN.out] at h2; omega) h2⟩, rfl⟩
def otherS (c : Int) : Int := if c = 40 then 41 else if c = 91 then 93 else if c = 123 then 125 else if c = 41 then 40 else if c = 93 then 91 else if c = 125 then 123 else 0
def shutS (c : Int) : Bool := if c = 41 then true else if c = 93 then true else if c = 125 then true else false
def openS (c : Int) : Int := if c = 40 ∨ c = 41 then 40 else if c = 91 ∨ c = 93 then 91 else if c = 123 ∨ c = 125 then 123 else 0
def closeS (c : Int) : Int := if c = 40 ∨ c = 41 then 41 else if c = 91 ∨ c = 93 then 93 else if c = 123 ∨ c = 125 then 125 else 0
theorem sevenWays (c : Int) : c = 40 ∨ c = 91 ∨ c = 123 ∨ c = 41 ∨ c = 93 ∨ c = 125 ∨ (c ≠ 40 ∧ c ≠ 91 ∧ c ≠ 123 ∧ c ≠ 41 ∧ c ≠ 93 ∧ c ≠ 125) := by omega
theorem otherS_range (c : Int) : 0 ≤ otherS c ∧ otherS c ≤ 125 := by
 unfold otherS; repeat' split
 all_goals omega
theorem dyck_other (c : Int) (w : World) :
  Calls Try.prog 277 #[.int .i64 c] w fun e w' => e = .returned (.tuple #[.int .i64 (otherS c), .bool (shutS c)]) ∧ w = w' := by
 go_enter Try.func277, Try.ntmps277
 rcases sevenWays c with rfl | rfl | rfl | rfl | rfl | rfl | ⟨h1, h2, h3, h4, h5, h6⟩
 all_goals
  go_wp2
  go_ret2
  refine ⟨?_, rfl⟩
  first
  | rfl
  | simp [otherS, shutS, h1, h2, h3, h4, h5, h6]
theorem dyck_kind (c : Int) (w : World) :
  Calls Try.prog 292 #[.int .i64 c] w fun e w' => e = .returned (.tuple #[.int .i64 (otherS c), .bool (shutS c)]) ∧ w = w' := by
 go_enter Try.func292, Try.ntmps292
 go_wp2_with fail
 refine (dyck_other c w).mono ?_
 rintro e w' ⟨rfl, rfl⟩
 go_wp2
 go_ret2
 exact ⟨rfl, rfl⟩
def NotYet (k : Nat) (c : Int) : Prop := (1 ≤ k → c ≠ 40 ∧ c ≠ 41) ∧ (2 ≤ k → c ≠ 91 ∧ c ≠ 93) ∧ (3 ≤ k → c ≠ 123 ∧ c ≠ 125)
def pairCells : Array Value := #[.string { data := #[40, 41] }, .string { data := #[91, 93] }, .string { data := #[123, 125] }]
set_option maxRecDepth 100000 in
theorem ref_bracket (c : Int) (w : World) :
  Calls Try.prog 193 #[.int .i64 c] w fun e w' => e = .returned (.tuple #[.int .i64 (openS c), .int .i64 (closeS c)]) ∧ Below w.heap.size w w' := by
 go_enter Try.func193, Try.ntmps193
 go_wp2
 go_loopw [8] (fun i wr => ∃ k : Nat, i = .int .i64 (k : Int) ∧ k ≤ 3 ∧ NotYet k c ∧ Blk wr w.heap.size pairCells 9 ∧ Below w.heap.size w wr) (fun i _ => 3 - (intOf i).toNat)
 case atStart => exact ⟨0, rfl, by omega, ⟨by omega, by omega, by omega⟩, Blk.new _ _ _, below1 _ _⟩
 case round =>
  obtain ⟨k, rfl, hk, hny, hB, hbel⟩ := hrel
  obtain ⟨c0, c1, c2, -⟩ := hB.three
  have hny' := Lib.hid hny; clear hny
  have e00 : wrap64 ((({ data := #[40, 41] } : ByteArray)[0]'(by decide)).toNat : Int) = 40 := by decide +kernel
  have e01 : wrap64 ((({ data := #[40, 41] } : ByteArray)[1]'(by decide)).toNat : Int) = 41 := by decide +kernel
  have e10 : wrap64 ((({ data := #[91, 93] } : ByteArray)[0]'(by decide)).toNat : Int) = 91 := by decide +kernel
  have e11 : wrap64 ((({ data := #[91, 93] } : ByteArray)[1]'(by decide)).toNat : Int) = 93 := by decide +kernel
  have e20 : wrap64 ((({ data := #[123, 125] } : ByteArray)[0]'(by decide)).toNat : Int) = 123 := by decide +kernel
  have e21 : wrap64 ((({ data := #[123, 125] } : ByteArray)[1]'(by decide)).toNat : Int) = 125 := by decide +kernel
  obtain rfl | rfl | rfl | rfl : k = 0 ∨ k = 1 ∨ k = 2 ∨ k = 3 := by omega
  ·by_cases h0 : c = 40
   ·subst h0
    go_wp2
    go_quiet (fail)
    all_goals
     go_wp2
     go_ret2
     exact ⟨ret2_int (by first | exact e00 | rfl) (by first | exact e01 | rfl), below_drewN hbel _⟩
   ·by_cases h1 : c = 41
    ·subst h1
     go_wp2
     go_quiet (fail)
     all_goals
      go_wp2
      go_ret2
      exact ⟨ret2_int (by first | exact e00 | rfl) (by first | exact e01 | rfl), below_drewN hbel _⟩
    ·have g0 : (c == 40) = false := by simpa using h0
     have g1 : (c == 41) = false := by simpa using h1
     go_wp2
     go_roundw
     case rel => exact ⟨1, by go_num, by omega, by have := hny'.out; unfold NotYet at *; omega, hB, hbel⟩
     case measure => simp [intOf]
  ·by_cases h0 : c = 91
   ·subst h0
    go_wp2
    go_quiet (fail)
    all_goals
     go_wp2
     go_ret2
     exact ⟨ret2_int (by first | exact e10 | rfl) (by first | exact e11 | rfl), below_drewN hbel _⟩
   ·by_cases h1 : c = 93
    ·subst h1
     go_wp2
     go_quiet (fail)
     all_goals
      go_wp2
      go_ret2
      exact ⟨ret2_int (by first | exact e10 | rfl) (by first | exact e11 | rfl), below_drewN hbel _⟩
    ·have g0 : (c == 91) = false := by simpa using h0
     have g1 : (c == 93) = false := by simpa using h1
     go_wp2
     go_roundw
     case rel => exact ⟨2, by go_num, by omega, by have := hny'.out; unfold NotYet at *; omega, hB, hbel⟩
     case measure => simp [intOf]
  ·by_cases h0 : c = 123
   ·subst h0
    go_wp2
    go_quiet (fail)
    all_goals
     go_wp2
     go_ret2
     exact ⟨ret2_int (by first | exact e20 | rfl) (by first | exact e21 | rfl), below_drewN hbel _⟩
   ·by_cases h1 : c = 125
    ·subst h1
     go_wp2
     go_quiet (fail)
     all_goals
      go_wp2
      go_ret2
      exact ⟨ret2_int (by first | exact e20 | rfl) (by first | exact e21 | rfl), below_drewN hbel _⟩
    ·have g0 : (c == 123) = false := by simpa using h0
     have g1 : (c == 125) = false := by simpa using h1
     go_wp2
     go_roundw
     case rel => exact ⟨3, by go_num, by omega, by have := hny'.out; unfold NotYet at *; omega, hB, hbel⟩
     case measure => simp [intOf]
  ·have h0 : openS c = 0 := by have := hny'.out; unfold NotYet at *; unfold openS; rw [if_neg (by omega), if_neg (by omega), if_neg (by omega)]
   have h1 : closeS c = 0 := by have := hny'.out; unfold NotYet at *; unfold closeS; rw [if_neg (by omega), if_neg (by omega), if_neg (by omega)]
   have H0 := Lib.hid h0; have H1 := Lib.hid h1; clear h0 h1
   go_wp2
   go_ret2
   exact ⟨ret2_int H0.out.symm H1.out.symm, hbel⟩
def dOS (l : List Int) (o s : Int) (i : Nat) : Int := (if ix l i = o then 1 else 0) - (if ix l i = s then 1 else 0)
def cnt (l : List Int) (o s : Int) (at' : Nat → Nat) : Nat → Int
 | 0 => 0
 | t + 1 => cnt l o s at' t + dOS l o s (at' t)
theorem cnt_range (l : List Int) (o s : Int) (at' : Nat → Nat) (t : Nat) : -(t : Int) ≤ cnt l o s at' t ∧ cnt l o s at' t ≤ t := by
 induction t with
 | zero => simp [cnt]
 | succ t ih =>
  have : -1 ≤ dOS l o s (at' t) ∧ dOS l o s (at' t) ≤ 1 := by unfold dOS; split <;> split <;> omega
  simp only [cnt]; push_cast; omega
def EndsB (l : List Int) (o s : Int) (at' : Nat → Nat) (t : Nat) : Prop := ix l (at' t) = s ∧ cnt l o s at' (t + 1) = 0
def PartP (l : List Int) (o s : Int) (at' : Nat → Nat) (m : Nat) (r : Int) : Prop :=
 (∃ t, t < m ∧ EndsB l o s at' t ∧ (∀ t', t' < t → ¬ EndsB l o s at' t') ∧ r = (at' t : Int)) ∨ ((∀ t, t < m → ¬ EndsB l o s at' t) ∧ r = -1)
def PartPost (P : Int → Prop) (w : World) (e : Ending) (w' : World) : Prop := ∃ r : Int, e = .returned (.int .i64 r) ∧ P r ∧ Below w.heap.size w w'
set_option maxRecDepth 100000 in
set_option maxHeartbeats 1000000 in
theorem ref_partner_up (a : Option Addr) (n c : Nat) (l : List Int) (k : Nat) (w : World) (ha : Ints w a l) (hn : l.length = n) (h2 : n ≤ 4096) (hk : k < n) (o s : Int) (ho : openS (ix l k) = o) (hs : closeS (ix l k) = s) (h0 : o ≠ 0) (h1 : ix l k ≠ s) (hos : o ≠ s) :
  Calls Try.prog 194 #[.slice a n c, .int .i64 (k : Int)] w (PartPost (PartP l o s (fun t => k + t) (n - k)) w) := by
 have HN := Lib.hid hn; clear hn
 have HO := Lib.hid ho; have HS := Lib.hid hs; clear ho hs
 obtain ⟨b1, o1, rfl, hc0⟩ := ha.at (k := k) (by rw [HN.out]; exact hk)
 have HC := Lib.hid (show ∀ i, i < n → w.cell? ⟨b1, o1 + i, none⟩ = some (.int .i64 (ix l i)) from fun i hi => hc0 i (by rw [HN.out]; exact hi))
 have ck := HC.out k hk
 have ik : (k : Int) < (n : Int) := by omega
 clear hc0
 have g0 : (o == 0) = false := by simpa using h0
 have g1 : (ix l k == s) = false := by simpa using h1
 go_enter Try.func194, Try.ntmps194
 go_wp2_with fail
 refine (ref_bracket (ix l k) w).mono ?_
 rintro e w2 ⟨rfl, hb2⟩
 have ck2 := below_keeps hb2 _ _ ck
 rw [HO.out, HS.out]
 go_wp2
 go_loopw [9, 8] (fun i d wr => ∃ t : Nat, i = .int .i64 ((k + t : Nat) : Int) ∧ d = .int .i64 (cnt l o s (fun t => k + t) t) ∧ k + t ≤ n ∧ (∀ t', t' < t → ¬ EndsB l o s (fun t => k + t) t') ∧ wr = w2) (fun i _ _ => n - (intOf i).toNat)
 case atStart => exact ⟨0, by simp, rfl, by omega, fun t h => by omega, rfl⟩
 case round =>
  obtain ⟨t, rfl, rfl, ht, hno, rfl⟩ := hrel
  have HNO := Lib.hid hno; clear hno
  have hr := cnt_range l o s (fun t => k + t) t
  by_cases hlt : k + t < n
  ·have cj := below_keeps hb2 _ _ (HC.out (k + t) hlt)
   have i1 : ((k + t : Nat) : Int) < (n : Int) := by omega
   have hc : cnt l o s (fun t => k + t) (t + 1) = cnt l o s (fun t => k + t) t + dOS l o s (k + t) := rfl
   by_cases e1 : ix l (k + t) = o
   ·have j1 : (ix l (k + t) == o) = true := by simpa using e1
    have e2 : ix l (k + t) ≠ s := by rw [e1]; exact hos
    have j2 : (ix l (k + t) == s) = false := by simpa using e2
    have hd : dOS l o s (k + t) = 1 := by unfold dOS; rw [if_pos e1, if_neg e2]; rfl
    have H1 := Lib.hid (hc.trans (by rw [hd])); clear hc hd e1
    have HE := Lib.hid (show ¬ EndsB l o s (fun t => k + t) t from fun h => e2 h.1)
    clear e2
    generalize cnt l o s (fun t => k + t) t = dd at *
    go_wp2
    go_roundw
    case rel => exact ⟨t + 1, by go_num, by rw [H1.out], by omega, fun t' h' => by
     rcases Nat.lt_succ_iff_lt_or_eq.1 h' with h | rfl
     ·exact HNO.out t' h
     ·exact HE.out, trivial⟩
    case measure => simp [intOf]; omega
   ·have j1 : (ix l (k + t) == o) = false := by simpa using e1
    by_cases e2 : ix l (k + t) = s
    ·have j2 : (ix l (k + t) == s) = true := by simpa using e2
     have hd : dOS l o s (k + t) = -1 := by unfold dOS; rw [if_neg e1, if_pos e2]; rfl
     have H1 := Lib.hid (hc.trans (by rw [hd])); clear hc hd
     have HE2 := Lib.hid e2; clear e1 e2
     by_cases hz : cnt l o s (fun t => k + t) t + -1 = 0
     ·have HE := Lib.hid (show EndsB l o s (fun t => k + t) t from ⟨HE2.out, by rw [H1.out]; exact hz⟩)
      have hz2 : cnt l o s (fun t => k + t) t = 1 := by omega
      rw [hz2]
      clear hz hz2 H1 hr
      go_wp2
      go_ret
      exact ⟨_, rfl, .inl ⟨t, by omega, HE.out, HNO.out, by first | rfl | simp⟩, hb2⟩
     ·have HE := Lib.hid (show ¬ EndsB l o s (fun t => k + t) t from fun h => hz (by rw [← H1.out]; exact h.2))
      generalize cnt l o s (fun t => k + t) t = dd at *
      have hz3 : ¬ dd - 1 = 0 := by omega
      have hz4 : (dd - 1 == 0) = false := by simpa using hz3
      go_wp2
      go_roundw
      case rel => exact ⟨t + 1, by go_num, by rw [H1.out]; congr 1, by omega, fun t' h' => by
       rcases Nat.lt_succ_iff_lt_or_eq.1 h' with h | rfl
       ·exact HNO.out t' h
       ·exact HE.out, trivial⟩
      case measure => simp [intOf]; omega
    ·have j2 : (ix l (k + t) == s) = false := by simpa using e2
     have hd : dOS l o s (k + t) = 0 := by unfold dOS; rw [if_neg e1, if_neg e2]; rfl
     have H1 := Lib.hid (hc.trans (by rw [hd])); clear hc hd
     have HE := Lib.hid (show ¬ EndsB l o s (fun t => k + t) t from fun h => e2 h.1)
     clear e1 e2
     generalize cnt l o s (fun t => k + t) t = dd at *
     go_wp2
     go_roundw
     case rel => exact ⟨t + 1, by go_num, by rw [H1.out]; simp, by omega, fun t' h' => by
      rcases Nat.lt_succ_iff_lt_or_eq.1 h' with h | rfl
      ·exact HNO.out t' h
      ·exact HE.out, trivial⟩
     case measure => simp [intOf]; omega
  ·go_wp2
   go_ret
   exact ⟨_, rfl, .inr ⟨fun t' h' => HNO.out t' (by omega), rfl⟩, hb2⟩
set_option maxRecDepth 100000 in
set_option maxHeartbeats 1000000 in
theorem ref_partner_down (a : Option Addr) (n c : Nat) (l : List Int) (k : Nat) (w : World) (ha : Ints w a l) (hn : l.length = n) (h2 : n ≤ 4096) (hk : k < n) (o s : Int) (ho : closeS (ix l k) = o) (hs : openS (ix l k) = s) (h0 : s ≠ 0) (h1 : ix l k = o) (hos : o ≠ s) :
  Calls Try.prog 194 #[.slice a n c, .int .i64 (k : Int)] w (PartPost (PartP l o s (fun t => k - t) (k + 1)) w) := by
 have HN := Lib.hid hn; clear hn
 have HO := Lib.hid ho; have HS := Lib.hid hs; clear ho hs
 obtain ⟨b1, o1, rfl, hc0⟩ := ha.at (k := k) (by rw [HN.out]; exact hk)
 have HC := Lib.hid (show ∀ i, i < n → w.cell? ⟨b1, o1 + i, none⟩ = some (.int .i64 (ix l i)) from fun i hi => hc0 i (by rw [HN.out]; exact hi))
 have ck := HC.out k hk; have HG := Lib.hid h1; clear h1
 have ik : (k : Int) < (n : Int) := by omega
 clear hc0
 have g0 : (s == 0) = false := by simpa using h0
 have g1 : (ix l k == o) = true := by simpa using HG.out
 go_enter Try.func194, Try.ntmps194
 go_wp2_with fail
 refine (ref_bracket (ix l k) w).mono ?_
 rintro e w2 ⟨rfl, hb2⟩
 have ck2 := below_keeps hb2 _ _ ck
 rw [HO.out, HS.out]
 go_wp2
 go_loopw [9, 8] (fun i d wr => ∃ t : Nat, i = .int .i64 ((k : Int) - t) ∧ d = .int .i64 (cnt l o s (fun t => k - t) t) ∧ t ≤ k + 1 ∧ (∀ t', t' < t → ¬ EndsB l o s (fun t => k - t) t') ∧ wr = w2) (fun i _ _ => (intOf i + 1).toNat)
 case atStart => exact ⟨0, by simp, rfl, by omega, fun t h => by omega, rfl⟩
 case round =>
  obtain ⟨t, rfl, rfl, ht, hno, rfl⟩ := hrel
  have HNO := Lib.hid hno; clear hno
  have hr := cnt_range l o s (fun t => k - t) t
  by_cases hlt : t ≤ k
  ·have cj := below_keeps hb2 _ _ (HC.out (k - t) (by omega))
   have i1 : (k : Int) - t < (n : Int) := by omega
   have i2 : (0 : Int) ≤ (k : Int) - t := by omega
   have i3 : ((k : Int) - t).toNat = k - t := by omega
   have hc : cnt l o s (fun t => k - t) (t + 1) = cnt l o s (fun t => k - t) t + dOS l o s (k - t) := rfl
   by_cases e1 : ix l (k - t) = o
   ·have j1 : (ix l (k - t) == o) = true := by simpa using e1
    have e2 : ix l (k - t) ≠ s := by rw [e1]; exact hos
    have j2 : (ix l (k - t) == s) = false := by simpa using e2
    have hd : dOS l o s (k - t) = 1 := by unfold dOS; rw [if_pos e1, if_neg e2]; rfl
    have H1 := Lib.hid (hc.trans (by rw [hd])); clear hc hd e1
    have HE := Lib.hid (show ¬ EndsB l o s (fun t => k - t) t from fun h => e2 h.1)
    clear e2
    generalize cnt l o s (fun t => k - t) t = dd at *
    go_wp2
    go_roundw
    case rel => exact ⟨t + 1, by congr 1; omega, by rw [H1.out], by omega, fun t' h' => by
     rcases Nat.lt_succ_iff_lt_or_eq.1 h' with h | rfl
     ·exact HNO.out t' h
     ·exact HE.out, trivial⟩
    case measure => simp [intOf]; omega
   ·have j1 : (ix l (k - t) == o) = false := by simpa using e1
    by_cases e2 : ix l (k - t) = s
    ·have j2 : (ix l (k - t) == s) = true := by simpa using e2
     have hd : dOS l o s (k - t) = -1 := by unfold dOS; rw [if_neg e1, if_pos e2]; rfl
     have H1 := Lib.hid (hc.trans (by rw [hd])); clear hc hd
     have HE2 := Lib.hid e2; clear e1 e2
     by_cases hz : cnt l o s (fun t => k - t) t + -1 = 0
     ·have HE := Lib.hid (show EndsB l o s (fun t => k - t) t from ⟨HE2.out, by rw [H1.out]; exact hz⟩)
      have hz2 : cnt l o s (fun t => k - t) t = 1 := by omega
      rw [hz2]
      clear hz hz2 H1 hr
      go_wp2
      go_ret
      exact ⟨_, rfl, .inl ⟨t, by omega, HE.out, HNO.out, by show _ = ((k - t : Nat) : Int); omega⟩, hb2⟩
     ·have HE := Lib.hid (show ¬ EndsB l o s (fun t => k - t) t from fun h => hz (by rw [← H1.out]; exact h.2))
      generalize cnt l o s (fun t => k - t) t = dd at *
      have hz3 : ¬ dd - 1 = 0 := by omega
      have hz4 : (dd - 1 == 0) = false := by simpa using hz3
      go_wp2
      go_roundw
      case rel => exact ⟨t + 1, by congr 1; omega, by rw [H1.out]; congr 1, by omega, fun t' h' => by
       rcases Nat.lt_succ_iff_lt_or_eq.1 h' with h | rfl
       ·exact HNO.out t' h
       ·exact HE.out, trivial⟩
      case measure => simp [intOf]; omega
    ·have j2 : (ix l (k - t) == s) = false := by simpa using e2
     have hd : dOS l o s (k - t) = 0 := by unfold dOS; rw [if_neg e1, if_neg e2]; rfl
     have H1 := Lib.hid (hc.trans (by rw [hd])); clear hc hd
     have HE := Lib.hid (show ¬ EndsB l o s (fun t => k - t) t from fun h => e2 h.1)
     clear e1 e2
     generalize cnt l o s (fun t => k - t) t = dd at *
     go_wp2
     go_roundw
     case rel => exact ⟨t + 1, by congr 1; omega, by rw [H1.out]; simp, by omega, fun t' h' => by
      rcases Nat.lt_succ_iff_lt_or_eq.1 h' with h | rfl
      ·exact HNO.out t' h
      ·exact HE.out, trivial⟩
     case measure => simp [intOf]; omega
  ·go_wp2
   go_ret
   exact ⟨_, rfl, .inr ⟨fun t' h' => HNO.out t' (by omega), rfl⟩, hb2⟩
set_option maxRecDepth 100000 in
theorem ref_partner_none (a : Option Addr) (n c : Nat) (l : List Int) (k : Nat) (w : World) (ha : Ints w a l) (hn : l.length = n) (h2 : n ≤ 4096) (hk : k < n) (h0 : openS (ix l k) = 0) :
  Calls Try.prog 194 #[.slice a n c, .int .i64 (k : Int)] w (PartPost (fun r => r = -1) w) := by
 have HN := Lib.hid hn; clear hn
 obtain ⟨b1, o1, rfl, hc0⟩ := ha.at (k := k) (by rw [HN.out]; exact hk)
 have ck := hc0 k (by rw [HN.out]; exact hk)
 have ik : (k : Int) < (n : Int) := by omega
 have HO := Lib.hid h0
 clear hc0 h0
 go_enter Try.func194, Try.ntmps194
 go_wp2_with fail
 refine (ref_bracket (ix l k) w).mono ?_
 rintro e w2 ⟨rfl, hb2⟩
 rw [HO.out]
 go_wp2
 go_ret
 exact ⟨_, rfl, rfl, hb2⟩
end Go.Proofs.Ytmipnikhgihcpaa
namespace Go.Proofs.Ytmipnikhgihcpaa
open Go.RowKit Go.Maps
def heldV (v : Value) : Option (DataW Value × List MemPlace) := some (.held v, [])
def nilV : Value := .slice none 0 0
def MapV (w : World) (b n : Nat) (f : Int → Value) : Prop :=
 ∃ D : DataW Value, w.ownsMap Try.prog 3 heldV b n D ∧ ∀ x, InR x → D.atKey (.int .i64 x) (.held nilV) = .held (f x)
theorem keyedInt : Maps.Keyed Try.prog 3 := Maps.int_keyed Try.underlying3
theorem MapV.kept {w w' : World} {b n : Nat} {f : Int → Value} {row : Option Nat} (h : MapV w b n f) (hg : w.grownBy w' row) (hne : some b ≠ row) : MapV w' b n f := by
 obtain ⟨D, h1, h2⟩ := h; exact ⟨D, h1.kept hg hne, h2⟩
theorem MapV.alloc {w : World} {b n : Nat} {f : Int → Value} (h : MapV w b n f) (o : Obj) : MapV (w.alloc o) b n f := by
 obtain ⟨D, h1, h2⟩ := h; exact ⟨D, h1.alloc o, h2⟩
theorem MapV.lt {w : World} {b n : Nat} {f : Int → Value} (h : MapV w b n f) : b < w.heap.size := by
 obtain ⟨D, h1, h2⟩ := h; exact h1.lt
theorem MapV.made (w : World) : MapV (w.alloc (.map #[] 0)) w.heap.size 0 (fun _ => nilV) := by
 refine ⟨_, World.ownsMap_made w _ _ _, fun x _ => ?_⟩
 rfl
theorem keyInt {x : Int} (h : InR x) : keyOf Try.prog 3 (.int .i64 x) = some (.int .i64 x) := Maps.keyOf_int_mk Try.underlying3 (by simpa [Lit.wf, IntKind.min, IntKind.max, IntKind.signed, IntKind.bits, InR] using h)
theorem MapV.lookup {w : World} {b n : Nat} {f : Int → Value} (h : MapV w b n f) (hz : (zeroValue 22).run Try.prog w = .ok nilV w) {x : Int} (hx : InR x) :
  (Instr.lookup 350 (.map (some b)) (.int .i64 x) false).run Try.prog w = .ok (f x) w := by
 obtain ⟨D, h1, h2⟩ := h
 obtain ⟨v, ps, hrun, hv⟩ := h1.lookup keyedInt Try.underlying350 hz rfl (keyInt hx)
 rw [h2 x hx] at hv
 simp only [heldV, Option.some.injEq, Prod.mk.injEq, DataW.held.injEq] at hv
 rw [hrun, hv.1]
theorem MapV.update {w : World} {b n : Nat} {f : Int → Value} (h : MapV w b n f) (hn : n ≤ 1000000000) {x : Int} (hx : InR x) (val : Value) :
  ∃ w', (Instr.mapUpdate 350 (.map (some b)) (.int .i64 x) val).run Try.prog w = .ok () w' ∧ MapV w' b (n + 1) (fun y => if y = x then val else f y) ∧ w.grownBy w' (some b) := by
 obtain ⟨D, h1, h2⟩ := h
 obtain ⟨w', hrun, h3, h4⟩ := h1.update keyedInt Try.underlying350 (by unfold maxLen; omega) (keyInt hx) (show heldV val = some (.held val, []) from rfl)
 refine ⟨w', hrun, ⟨_, h3, fun y hy => ?_⟩, h4⟩
 show _ = DataW.held (if y = x then val else f y)
 by_cases e : y = x
 ·subst e
  rw [if_pos rfl]
  obtain ⟨es, clock, _, _, _, hD⟩ := h1
  exact atKey_put_same ⟨_, hD⟩ (keyedInt.key (keyInt hx)) _ _
 ·rw [if_neg e, ← h2 y hy]
  exact atKey_put_other (fun hh => e (by simpa using hh)) _ _
end Go.Proofs.Ytmipnikhgihcpaa
namespace Go.Proofs.Ytmipnikhgihcpaa
open Go.RowKit
structure PSt where
 out : List Int
 stk : Int → List Int
def pStep (c : Int) (i : Nat) (s : PSt) : PSt :=
 let out := s.out.set i (-1)
 if otherS c = 0 then ⟨out, s.stk⟩
 else if shutS c = false then ⟨out, fun y => if y = c then s.stk c ++ [(i : Int)] else s.stk y⟩
 else if s.stk (otherS c) = [] then ⟨out, s.stk⟩
 else ⟨(out.set i (ix (s.stk (otherS c)) ((s.stk (otherS c)).length - 1))).set (ix (s.stk (otherS c)) ((s.stk (otherS c)).length - 1)).toNat (i : Int),
    fun y => if y = otherS c then (s.stk (otherS c)).dropLast else s.stk y⟩
def pRun (l : List Int) (n : Nat) : Nat → PSt
 | 0 => ⟨List.replicate n 0, fun _ => []⟩
 | i + 1 => pStep (ix l i) i (pRun l n i)
theorem pStep_len (c : Int) (i : Nat) (s : PSt) : (pStep c i s).out.length = s.out.length := by
 unfold pStep; dsimp only; repeat' split
 all_goals simp
theorem pRun_len (l : List Int) (n i : Nat) : (pRun l n i).out.length = n := by
 induction i with
 | zero => simp [pRun]
 | succ i ih => simp only [pRun]; rw [pStep_len, ih]
theorem zeroRow (w : World) : (zeroValue 22).run Try.prog w = .ok nilV w := by kernel_rfl
end Go.Proofs.Ytmipnikhgihcpaa
namespace Go.Proofs.Ytmipnikhgihcpaa
def sumOS (l : List Int) (o s : Int) : Nat → Int
 | 0 => 0
 | i + 1 => sumOS l o s i + dOS l o s i
theorem cnt_up (l : List Int) (o s : Int) (k t : Nat) : cnt l o s (fun t => k + t) t = sumOS l o s (k + t) - sumOS l o s k := by
 induction t with
 | zero => simp [cnt]
 | succ t ih => simp only [cnt]; rw [ih, show k + (t + 1) = (k + t) + 1 from rfl]; simp only [sumOS]; omega
theorem dOS_swap (l : List Int) (o s : Int) (i : Nat) : dOS l s o i = - dOS l o s i := by unfold dOS; omega
theorem cnt_down (l : List Int) (o s : Int) (k t : Nat) (h : t ≤ k + 1) : cnt l s o (fun t => k - t) t = sumOS l o s (k + 1 - t) - sumOS l o s (k + 1) := by
 induction t with
 | zero => simp [cnt]
 | succ t ih =>
  have ih := ih (by omega)
  simp only [cnt]
  rw [ih, dOS_swap, show k + 1 - t = (k - t) + 1 from by omega, show k + 1 - (t + 1) = k - t from by omega]
  simp only [sumOS]; omega
structure Match (l : List Int) (o s : Int) (p i : Nat) : Prop where
 lt : p < i
 opener : ix l p = o
 closer : ix l i = s
 above : ∀ b, p < b → b ≤ i → sumOS l o s p + 1 ≤ sumOS l o s b
 meets : sumOS l o s (i + 1) = sumOS l o s p
theorem Match.up {l : List Int} {o s : Int} {p i n : Nat} (h : Match l o s p i) (hi : i < n) : PartP l o s (fun t => p + t) (n - p) (i : Int) := by
 have hlt := h.lt
 refine .inl ⟨i - p, by omega, ⟨?_, ?_⟩, fun t ht he => ?_, by show _ = ((p + (i - p) : Nat) : Int); omega⟩
 ·show ix l (p + (i - p)) = s; rw [show p + (i - p) = i from by omega]; exact h.closer
 ·rw [cnt_up, show p + (i - p + 1) = i + 1 from by omega, h.meets]; omega
 ·have h1 := he.2; rw [cnt_up] at h1
  have := h.above (p + (t + 1)) (by omega) (by omega); omega
theorem Match.down {l : List Int} {o s : Int} {p i : Nat} (h : Match l o s p i) : PartP l s o (fun t => i - t) (i + 1) (p : Int) := by
 have hlt := h.lt
 refine .inl ⟨i - p, by omega, ⟨?_, ?_⟩, fun t ht he => ?_, by show _ = ((i - (i - p) : Nat) : Int); omega⟩
 ·show ix l (i - (i - p)) = o; rw [show i - (i - p) = p from by omega]; exact h.opener
 ·rw [cnt_down l o s _ _ (by omega), show i + 1 - (i - p + 1) = p from by omega, h.meets]; omega
 ·have h1 := he.2; rw [cnt_down l o s _ _ (by omega), h.meets] at h1
  have := h.above (i + 1 - (t + 1)) (by omega) (by omega); omega
theorem lone_up {l : List Int} {o s : Int} {p n : Nat} (h : ∀ b, p < b → b ≤ n → sumOS l o s p + 1 ≤ sumOS l o s b) (hp : p < n) : PartP l o s (fun t => p + t) (n - p) (-1) := by
 refine .inr ⟨fun t ht he => ?_, rfl⟩
 have h1 := he.2; rw [cnt_up] at h1
 have := h (p + (t + 1)) (by omega) (by omega); omega
theorem lone_down {l : List Int} {o s : Int} {i : Nat} (h : ∀ a, a ≤ i → sumOS l o s (i + 1) + 1 ≤ sumOS l o s a) : PartP l s o (fun t => i - t) (i + 1) (-1) := by
 refine .inr ⟨fun t ht he => ?_, rfl⟩
 have h1 := he.2; rw [cnt_down l o s _ _ (by omega)] at h1
 have := h (i + 1 - (t + 1)) (by omega); omega
theorem ixS_ne {l : List Int} {i j : Nat} {x : Int} (h : i ≠ j) : ix (l.set i x) j = ix l j := by
 simp [ix, List.getElem?_set, h]
theorem ixS_eq {l : List Int} {i : Nat} {x : Int} (h : i < l.length) : ix (l.set i x) i = x := by
 simp [ix, List.getElem?_set, h]
theorem ix_last {xs : List Int} {x : Int} : ix (xs ++ [x]) xs.length = x := by simp [ix]
theorem ix_lastP {xs : List Int} {q : Nat} (h : q < xs.length - 1) : ix xs.dropLast q = ix xs q := by
 simp only [ix, List.getD_eq_getElem?_getD, List.getElem?_dropLast, if_pos h]
def IsKind (o s : Int) : Prop := (o = 40 ∧ s = 41) ∨ (o = 91 ∧ s = 93) ∨ (o = 123 ∧ s = 125)
theorem kindOf (c : Int) : (otherS c = 0 ∧ ∀ o s, IsKind o s → c ≠ o ∧ c ≠ s) ∨ (IsKind c (otherS c) ∧ otherS c ≠ 0 ∧ shutS c = false) ∨ (IsKind (otherS c) c ∧ otherS c ≠ 0 ∧ shutS c = true) := by
 rcases sevenWays c with rfl | rfl | rfl | rfl | rfl | rfl | ⟨h1, h2, h3, h4, h5, h6⟩
 case inr.inr.inr.inr.inr.inr =>
  refine .inl ⟨by simp [otherS, h1, h2, h3, h4, h5, h6], fun o s h => ?_⟩
  unfold IsKind at h; omega
 all_goals simp [otherS, shutS, IsKind]
structure StkI (l : List Int) (o s : Int) (i : Nat) (st : List Int) : Prop where
 place : ∀ q, q < st.length → ∃ p : Nat, ix st q = (p : Int) ∧ p < i ∧ ix l p = o ∧ (∀ b, p < b → b ≤ i → sumOS l o s p + 1 ≤ sumOS l o s b) ∧ sumOS l o s i = sumOS l o s p + (st.length - q : Int)
 base : ∀ a, a ≤ i → sumOS l o s i - sumOS l o s a ≤ (st.length : Int)
theorem StkI.zero (l : List Int) (o s : Int) : StkI l o s 0 [] := by
 refine ⟨fun q hq => by simp at hq, fun a ha => ?_⟩
 obtain rfl : a = 0 := by omega
 simp
theorem StkI.skip {l : List Int} {o s : Int} {i : Nat} {st : List Int} (h : StkI l o s i st) (h1 : ix l i ≠ o) (h2 : ix l i ≠ s) : StkI l o s (i + 1) st := by
 have hs : sumOS l o s (i + 1) = sumOS l o s i := by simp [sumOS, dOS, h1, h2]
 refine ⟨fun q hq => ?_, fun a ha => ?_⟩
 ·obtain ⟨p, e1, e2, e3, e4, e5⟩ := h.place q hq
  refine ⟨p, e1, by omega, e3, fun b hb hb' => ?_, by omega⟩
  by_cases e : b = i + 1
  ·subst e; rw [hs]; exact e4 i e2 (Nat.le_refl _)
  ·exact e4 b hb (by omega)
 ·by_cases e : a = i + 1
  ·subst e; omega
  ·have := h.base a (by omega); omega
theorem StkI.push {l : List Int} {o s : Int} {i : Nat} {st : List Int} (h : StkI l o s i st) (h1 : ix l i = o) (hos : o ≠ s) : StkI l o s (i + 1) (st ++ [(i : Int)]) := by
 have hs : sumOS l o s (i + 1) = sumOS l o s i + 1 := by simp [sumOS, dOS, h1, hos]
 refine ⟨fun q hq => ?_, fun a ha => ?_⟩
 ·have hq : q < st.length + 1 := by simpa using hq
  by_cases e : q = st.length
  ·subst e
   refine ⟨i, ix_last, by omega, h1, fun b hb hb' => ?_, by simp; omega⟩
   obtain rfl : b = i + 1 := by omega
   omega
  ·obtain ⟨p, e1, e2, e3, e4, e5⟩ := h.place q (by omega)
   refine ⟨p, by rw [ix_append_left (by omega), e1], by omega, e3, fun b hb hb' => ?_, by simp; omega⟩
   by_cases e : b = i + 1
   ·subst e; rw [hs]; have := e4 i e2 (Nat.le_refl _); omega
   ·exact e4 b hb (by omega)
 ·simp only [List.length_append, List.length_singleton]
  by_cases e : a = i + 1
  ·subst e; omega
  ·have := h.base a (by omega); omega
theorem StkI.none {l : List Int} {o s : Int} {i : Nat} (h : StkI l o s i []) (h1 : ix l i = s) (hos : o ≠ s) : StkI l o s (i + 1) [] ∧ ∀ a, a ≤ i → sumOS l o s (i + 1) + 1 ≤ sumOS l o s a := by
 have hs : sumOS l o s (i + 1) = sumOS l o s i - 1 := by simp [sumOS, dOS, h1, Ne.symm hos]; omega
 refine ⟨⟨fun q hq => by simp at hq, fun a ha => ?_⟩, fun a ha => ?_⟩
 ·by_cases e : a = i + 1
  ·subst e; simp
  ·have := h.base a (by omega); simp at this ⊢; omega
 ·have := h.base a ha; simp at this; omega
theorem StkI.pop {l : List Int} {o s : Int} {i : Nat} {st : List Int} (h : StkI l o s i st) (h1 : ix l i = s) (hos : o ≠ s) (hne : 0 < st.length) :
  StkI l o s (i + 1) st.dropLast ∧ ∃ p : Nat, ix st (st.length - 1) = (p : Int) ∧ Match l o s p i := by
 have hs : sumOS l o s (i + 1) = sumOS l o s i - 1 := by simp [sumOS, dOS, h1, Ne.symm hos]; omega
 refine ⟨⟨fun q hq => ?_, fun a ha => ?_⟩, ?_⟩
 ·have hq : q < st.length - 1 := by simpa using hq
  obtain ⟨p, e1, e2, e3, e4, e5⟩ := h.place q (by omega)
  have e6 : sumOS l o s (i + 1) = sumOS l o s p + ((st.dropLast.length : Int) - q) := by simp; omega
  refine ⟨p, by rw [ix_lastP hq, e1], by omega, e3, fun b hb hb' => ?_, e6⟩
  by_cases e : b = i + 1
  ·subst e; simp at e6; omega
  ·exact e4 b hb (by omega)
 ·simp only [List.length_dropLast]
  by_cases e : a = i + 1
  ·subst e; omega
  ·have := h.base a (by omega); omega
 ·obtain ⟨p, e1, e2, e3, e4, e5⟩ := h.place (st.length - 1) (by omega)
  exact ⟨p, e1, e2, e3, h1, e4, by omega⟩
structure OutI (l : List Int) (i : Nat) (S : PSt) : Prop where
 others : ∀ x, x < i → otherS (ix l x) = 0 → ix S.out x = -1
 closers : ∀ o s, IsKind o s → ∀ x, x < i → ix l x = s → (∃ p : Nat, Match l o s p x ∧ ix S.out x = (p : Int)) ∨ (ix S.out x = -1 ∧ ∀ a, a ≤ x → sumOS l o s (x + 1) + 1 ≤ sumOS l o s a)
 openers : ∀ o s, IsKind o s → ∀ x, x < i → ix l x = o → (∃ j, j < i ∧ Match l o s x j ∧ ix S.out x = (j : Int)) ∨ (ix S.out x = -1 ∧ ∃ q, q < (S.stk o).length ∧ ix (S.stk o) q = (x : Int))
 stks : ∀ o s, IsKind o s → StkI l o s i (S.stk o)
theorem IsKind.ne {o s : Int} (h : IsKind o s) : o ≠ s := by unfold IsKind at h; omega
theorem IsKind.same {o s s' : Int} (h : IsKind o s) (h' : IsKind o s') : s = s' := by unfold IsKind at h h'; omega
theorem IsKind.sameO {o o' s : Int} (h : IsKind o s) (h' : IsKind o' s) : o = o' := by unfold IsKind at h h'; omega
theorem IsKind.cross {o s o' : Int} (h : IsKind o s) (h' : IsKind s o') : False := by unfold IsKind at h h'; omega
theorem IsKind.apart {o s o' s' : Int} (h : IsKind o s) (h' : IsKind o' s') : o ≠ s' := by unfold IsKind at h h'; omega
theorem IsKind.other {o s : Int} (h : IsKind o s) : otherS o = s ∧ otherS s = o ∧ shutS o = false ∧ shutS s = true ∧ s ≠ 0 ∧ o ≠ 0 := by
 rcases h with ⟨rfl, rfl⟩ | ⟨rfl, rfl⟩ | ⟨rfl, rfl⟩ <;> simp [otherS, shutS]
theorem OutI.step {l : List Int} {i n : Nat} {S : PSt} (h : OutI l i S) (hn : S.out.length = n) (hi : i < n) : OutI l (i + 1) (pStep (ix l i) i S) := by
 rcases kindOf (ix l i) with ⟨k0, k1⟩ | ⟨k0, k1, k2⟩ | ⟨k0, k1, k2⟩
 ·
  have e : pStep (ix l i) i S = ⟨S.out.set i (-1), S.stk⟩ := by simp [pStep, k0]
  rw [e]
  refine ⟨fun x hx hx2 => ?_, fun o s hk x hx hx2 => ?_, fun o s hk x hx hx2 => ?_, fun o s hk => ?_⟩
  ·by_cases e : x = i
   ·subst e; exact ixS_eq (by omega)
   ·show ix (S.out.set i (-1)) x = _; rw [ixS_ne (by omega)]; exact h.others x (by omega) hx2
  ·by_cases e : x = i
   ·subst e; exact absurd hx2 (k1 o s hk).2
   ·show (∃ p : Nat, _ ∧ ix (S.out.set i (-1)) x = _) ∨ (ix (S.out.set i (-1)) x = _ ∧ _); rw [ixS_ne (by omega)]; exact h.closers o s hk x (by omega) hx2
  ·by_cases e : x = i
   ·subst e; exact absurd hx2 (k1 o s hk).1
   ·show (∃ p : Nat, _ ∧ _ ∧ ix (S.out.set i (-1)) x = _) ∨ (ix (S.out.set i (-1)) x = _ ∧ _); rw [ixS_ne (by omega)]
    rcases h.openers o s hk x (by omega) hx2 with ⟨j, h1, h2, h3⟩ | h1
    ·exact .inl ⟨j, by omega, h2, h3⟩
    ·exact .inr h1
  ·exact (h.stks o s hk).skip (k1 o s hk).1 (k1 o s hk).2
 ·
  have e : pStep (ix l i) i S = ⟨S.out.set i (-1), fun y => if y = ix l i then S.stk (ix l i) ++ [(i : Int)] else S.stk y⟩ := by simp [pStep, k1, k2]
  rw [e]
  refine ⟨fun x hx hx2 => ?_, fun o s hk x hx hx2 => ?_, fun o s hk x hx hx2 => ?_, fun o s hk => ?_⟩
  ·by_cases e : x = i
   ·subst e; exact absurd hx2 k1
   ·show ix (S.out.set i (-1)) x = _; rw [ixS_ne (by omega)]; exact h.others x (by omega) hx2
  ·by_cases e : x = i
   ·subst e; rw [hx2] at k0; exact (hk.cross k0).elim
   ·show (∃ p : Nat, _ ∧ ix (S.out.set i (-1)) x = _) ∨ (ix (S.out.set i (-1)) x = _ ∧ _); rw [ixS_ne (by omega)]; exact h.closers o s hk x (by omega) hx2
  ·by_cases e : x = i
   ·subst e
    refine .inr ⟨ixS_eq (by omega), ?_⟩
    show ∃ q, q < (if o = ix l x then S.stk (ix l x) ++ [(x : Int)] else S.stk o).length ∧ ix (if o = ix l x then S.stk (ix l x) ++ [(x : Int)] else S.stk o) q = _
    rw [if_pos hx2.symm]
    exact ⟨(S.stk (ix l x)).length, by simp, ix_last⟩
   ·show (∃ p : Nat, _ ∧ _ ∧ ix (S.out.set i (-1)) x = _) ∨ (ix (S.out.set i (-1)) x = _ ∧ ∃ q, q < (if o = ix l i then S.stk (ix l i) ++ [(i : Int)] else S.stk o).length ∧ ix (if o = ix l i then S.stk (ix l i) ++ [(i : Int)] else S.stk o) q = _); rw [ixS_ne (by omega)]
    rcases h.openers o s hk x (by omega) hx2 with ⟨j, h1, h2, h3⟩ | ⟨h1, q, h2, h3⟩
    ·exact .inl ⟨j, by omega, h2, h3⟩
    ·refine .inr ⟨h1, q, ?_, ?_⟩
     ·split
      ·rename_i e2; rw [← e2]; simp; omega
      ·exact h2
     ·split
      ·rename_i e2; rw [← e2, ix_append_left h2]; exact h3
      ·exact h3
  ·show StkI l o s (i + 1) (if o = ix l i then S.stk (ix l i) ++ [(i : Int)] else S.stk o)
   split
   ·rename_i e2; rw [← e2]; exact (h.stks o s hk).push e2.symm hk.ne
   ·rename_i e2; exact (h.stks o s hk).skip (fun e => e2 e.symm) (fun e => k0.apart hk e)
 ·by_cases hS : S.stk (otherS (ix l i)) = []
  ·
   have e : pStep (ix l i) i S = ⟨S.out.set i (-1), S.stk⟩ := by simp [pStep, k1, k2, hS]
   rw [e]
   have hst := h.stks _ _ k0
   rw [hS] at hst
   obtain ⟨hst1, hst2⟩ := hst.none rfl k0.ne
   refine ⟨fun x hx hx2 => ?_, fun o s hk x hx hx2 => ?_, fun o s hk x hx hx2 => ?_, fun o s hk => ?_⟩
   ·by_cases e : x = i
    ·subst e; exact absurd hx2 k1
    ·show ix (S.out.set i (-1)) x = _; rw [ixS_ne (by omega)]; exact h.others x (by omega) hx2
   ·by_cases e : x = i
    ·subst e; rw [hx2] at k0 hst2; obtain rfl := hk.sameO k0
     exact .inr ⟨ixS_eq (by omega), hst2⟩
    ·show (∃ p : Nat, _ ∧ ix (S.out.set i (-1)) x = _) ∨ (ix (S.out.set i (-1)) x = _ ∧ _); rw [ixS_ne (by omega)]; exact h.closers o s hk x (by omega) hx2
   ·by_cases e : x = i
    ·subst e; exact absurd hx2.symm (hk.apart k0)
    ·show (∃ p : Nat, _ ∧ _ ∧ ix (S.out.set i (-1)) x = _) ∨ (ix (S.out.set i (-1)) x = _ ∧ _); rw [ixS_ne (by omega)]
     rcases h.openers o s hk x (by omega) hx2 with ⟨j, h1, h2, h3⟩ | h1
     ·exact .inl ⟨j, by omega, h2, h3⟩
     ·exact .inr h1
   ·by_cases e2 : s = ix l i
    ·subst e2; obtain rfl := hk.sameO k0
     show StkI l _ _ (i + 1) (S.stk _)
     rw [hS]; exact hst1
    ·exact (h.stks o s hk).skip (fun e => hk.apart k0 e.symm) (fun e => e2 e.symm)
  ·
   have hne : 0 < (S.stk (otherS (ix l i))).length := by rcases hh : S.stk (otherS (ix l i)) with _ | ⟨a, b⟩; exact absurd hh hS; simp
   obtain ⟨hst1, p, hp, hm⟩ := (h.stks _ _ k0).pop rfl k0.ne hne
   have hlt := hm.lt
   have e : pStep (ix l i) i S = ⟨((S.out.set i (-1)).set i (p : Int)).set p (i : Int), fun y => if y = otherS (ix l i) then (S.stk (otherS (ix l i))).dropLast else S.stk y⟩ := by
    simp only [pStep, k1, k2, hS, if_false, hp]; rfl
   rw [e]
   have hout : ∀ x, x < i → x ≠ p → ix (((S.out.set i (-1)).set i (p : Int)).set p (i : Int)) x = ix S.out x := fun x hx hxp => by rw [ixS_ne (by omega), ixS_ne (by omega), ixS_ne (by omega)]
   have houti : ix (((S.out.set i (-1)).set i (p : Int)).set p (i : Int)) i = p := by rw [ixS_ne (by omega), ixS_eq (by simp; omega)]
   have houtp : ix (((S.out.set i (-1)).set i (p : Int)).set p (i : Int)) p = i := by rw [ixS_eq (by simp; omega)]
   refine ⟨fun x hx hx2 => ?_, fun o s hk x hx hx2 => ?_, fun o s hk x hx hx2 => ?_, fun o s hk => ?_⟩
   ·by_cases e : x = i
    ·subst e; exact absurd hx2 k1
    ·have hxp : x ≠ p := fun e => by subst e; rw [hm.opener] at hx2; exact k0.other.2.2.2.2.1 (by rw [← k0.other.1]; exact hx2)
     show ix _ x = _; rw [hout x (by omega) hxp]; exact h.others x (by omega) hx2
   ·by_cases e : x = i
    ·subst e; subst hx2; obtain rfl := hk.sameO k0
     exact .inl ⟨p, hm, houti⟩
    ·have hxp : x ≠ p := fun e => by subst e; exact k0.apart hk (hm.opener.symm.trans hx2)
     show (∃ p' : Nat, _ ∧ ix (((S.out.set i (-1)).set i (p : Int)).set p (i : Int)) x = _) ∨ (ix (((S.out.set i (-1)).set i (p : Int)).set p (i : Int)) x = _ ∧ _)
     rw [hout x (by omega) hxp]; exact h.closers o s hk x (by omega) hx2
   ·by_cases e : x = i
    ·subst e; exact absurd hx2.symm (hk.apart k0)
    ·by_cases hxp : x = p
     ·subst hxp
      have : o = otherS (ix l i) := hx2.symm.trans hm.opener
      subst this
      obtain rfl := hk.same k0
      exact .inl ⟨i, by omega, hm, houtp⟩
     ·show (∃ j, _ ∧ _ ∧ ix (((S.out.set i (-1)).set i (p : Int)).set p (i : Int)) x = _) ∨ (ix (((S.out.set i (-1)).set i (p : Int)).set p (i : Int)) x = _ ∧ ∃ q, q < (if o = otherS (ix l i) then (S.stk (otherS (ix l i))).dropLast else S.stk o).length ∧ ix (if o = otherS (ix l i) then (S.stk (otherS (ix l i))).dropLast else S.stk o) q = _)
      rw [hout x (by omega) hxp]
      rcases h.openers o s hk x (by omega) hx2 with ⟨j, h1, h2, h3⟩ | ⟨h1, q, h2, h3⟩
      ·exact .inl ⟨j, by omega, h2, h3⟩
      ·refine .inr ⟨h1, q, ?_⟩
       split
       ·rename_i e2
        subst e2
        have : q ≠ (S.stk (otherS (ix l i))).length - 1 := fun e => hxp (by rw [← e, h3] at hp; exact_mod_cast hp)
        exact ⟨by simp; omega, by rw [ix_lastP (by omega)]; exact h3⟩
       ·exact ⟨h2, h3⟩
   ·show StkI l o s (i + 1) (if o = otherS (ix l i) then (S.stk (otherS (ix l i))).dropLast else S.stk o)
    split
    ·rename_i e2; subst e2; obtain rfl := hk.same k0; exact hst1
    ·rename_i e2
     exact (h.stks o s hk).skip (fun e => hk.apart k0 e.symm) (fun e => e2 (by subst e; exact hk.sameO k0))
theorem OutI.run (l : List Int) (n i : Nat) (hi : i ≤ n) : OutI l i (pRun l n i) := by
 induction i with
 | zero => exact ⟨fun x hx => by omega, fun o s hk x hx => by omega, fun o s hk x hx => by omega, fun o s hk => StkI.zero l o s⟩
 | succ i ih => exact (ih (by omega)).step (n := n) (pRun_len l n i) (by omega)
def PartnerP (l : List Int) (n k : Nat) (r : Int) : Prop :=
 if openS (ix l k) = 0 then r = -1
 else if ix l k = closeS (ix l k) then PartP l (closeS (ix l k)) (openS (ix l k)) (fun t => k - t) (k + 1) r
 else PartP l (openS (ix l k)) (closeS (ix l k)) (fun t => k + t) (n - k) r
theorem PartP.one {l : List Int} {o s : Int} {at' : Nat → Nat} {m : Nat} {r r' : Int} (h : PartP l o s at' m r) (h' : PartP l o s at' m r') : r = r' := by
 rcases h with ⟨t, h1, h2, h3, h4⟩ | ⟨h1, h2⟩ <;> rcases h' with ⟨t', h1', h2', h3', h4'⟩ | ⟨h1', h2'⟩
 ·have : t = t' := by
   rcases Nat.lt_trichotomy t t' with h | h | h
   ·exact absurd h2 (h3' t h)
   ·exact h
   ·exact absurd h2' (h3 t' h)
  subst this; rw [h4, h4']
 ·exact absurd h2 (h1' t h1)
 ·exact absurd h2' (h1 t' h1')
 ·rw [h2, h2']
theorem PartnerP.one {l : List Int} {n k : Nat} {r r' : Int} (h : PartnerP l n k r) (h' : PartnerP l n k r') : r = r' := by
 unfold PartnerP at h h'
 split at h
 ·rename_i e; rw [if_pos e] at h'; rw [h, h']
 ·rename_i e; rw [if_neg e] at h'
  split at h
  ·rename_i e; rw [if_pos e] at h'; exact h.one h'
  ·rename_i e; rw [if_neg e] at h'; exact h.one h'
theorem pairs_partner (l : List Int) (n k : Nat) (hk : k < n) : PartnerP l n k (ix (pRun l n n).out k) := by
 have h := OutI.run l n n (Nat.le_refl _)
 have hop : ∀ o s, IsKind o s → openS o = o ∧ closeS o = s ∧ openS s = o ∧ closeS s = s := by
  rintro o s (⟨rfl, rfl⟩ | ⟨rfl, rfl⟩ | ⟨rfl, rfl⟩) <;> simp [openS, closeS]
 unfold PartnerP
 rcases kindOf (ix l k) with ⟨k0, k1⟩ | ⟨k0, k1, k2⟩ | ⟨k0, k1, k2⟩
 ·have h40 := k1 40 41 (.inl ⟨rfl, rfl⟩)
  have h91 := k1 91 93 (.inr (.inl ⟨rfl, rfl⟩))
  have h123 := k1 123 125 (.inr (.inr ⟨rfl, rfl⟩))
  rw [if_pos (by simp [openS, h40, h91, h123])]
  exact h.others k hk k0
 ·have hh := k0.other
  have ho := hop _ _ k0
  rw [ho.1, ho.2.1, if_neg hh.2.2.2.2.2, if_neg k0.ne]
  rcases h.openers _ _ k0 k hk rfl with ⟨j, h1, h2, h3⟩ | ⟨h1, q, h2, h3⟩
  ·rw [h3]; exact h2.up h1
  ·rw [h1]
   obtain ⟨p, e1, e2, e3, e4, e5⟩ := (h.stks _ _ k0).place q h2
   obtain rfl : p = k := by rw [h3] at e1; exact_mod_cast e1.symm
   exact lone_up e4 hk
 ·have hh := k0.other
  have ho := hop _ _ k0
  rw [ho.2.2.1, ho.2.2.2, if_neg hh.2.2.2.2.2, if_pos rfl]
  rcases h.closers _ _ k0 k hk rfl with ⟨p, h1, h2⟩ | ⟨h1, h2⟩
  ·rw [h2]; exact h1.down
  ·rw [h1]; exact lone_down h2
end Go.Proofs.Ytmipnikhgihcpaa
namespace Go.Proofs.Ytmipnikhgihcpaa
open Go.RowKit
def seekUp (p : Nat → Bool) (i : Nat) : Nat → Option Nat
 | 0 => none
 | m + 1 => if p i then some i else seekUp p (i + 1) m
def seekDown (p : Nat → Bool) : Nat → Option Nat
 | 0 => none
 | i + 1 => if p i then some i else seekDown p i
theorem seekUp_some {p : Nat → Bool} {m : Nat} : ∀ {i r : Nat}, seekUp p i m = some r → i ≤ r ∧ r < i + m ∧ p r = true ∧ ∀ j, i ≤ j → j < r → p j = false := by
 induction m with
 | zero => intro i r h; simp [seekUp] at h
 | succ m ih =>
  intro i r h
  unfold seekUp at h
  cases hp : p i
  ·rw [if_neg (by simp [hp])] at h
   obtain ⟨h1, h2, h3, h4⟩ := ih h
   refine ⟨by omega, by omega, h3, fun j hj hjr => ?_⟩
   rcases Nat.eq_or_lt_of_le hj with rfl | hlt
   ·exact hp
   ·exact h4 j hlt hjr
  ·rw [if_pos hp] at h
   simp at h; subst h
   exact ⟨Nat.le_refl _, by omega, hp, fun j hj hjr => by omega⟩
theorem seekUp_none {p : Nat → Bool} {m : Nat} : ∀ {i : Nat}, seekUp p i m = none → ∀ j, i ≤ j → j < i + m → p j = false := by
 induction m with
 | zero => intro i _ j h1 h2; omega
 | succ m ih =>
  intro i h j h1 h2
  unfold seekUp at h
  cases hp : p i
  ·rw [if_neg (by simp [hp])] at h
   rcases Nat.eq_or_lt_of_le h1 with rfl | hlt
   ·exact hp
   ·exact ih h j hlt (by omega)
  ·rw [if_pos hp] at h; simp at h
theorem seekDown_some {p : Nat → Bool} {i : Nat} : ∀ {r : Nat}, seekDown p i = some r → r < i ∧ p r = true ∧ ∀ j, r < j → j < i → p j = false := by
 induction i with
 | zero => intro r h; simp [seekDown] at h
 | succ i ih =>
  intro r h
  unfold seekDown at h
  cases hp : p i
  ·rw [if_neg (by simp [hp])] at h
   obtain ⟨h1, h2, h3⟩ := ih h
   refine ⟨by omega, h2, fun j hj hji => ?_⟩
   rcases Nat.lt_succ_iff_lt_or_eq.1 hji with h | rfl
   ·exact h3 j hj h
   ·exact hp
  ·rw [if_pos hp] at h
   simp at h; subst h
   exact ⟨by omega, hp, fun j hj hji => by omega⟩
theorem seekDown_none {p : Nat → Bool} {i : Nat} : seekDown p i = none → ∀ j, j < i → p j = false := by
 induction i with
 | zero => intro _ j h; omega
 | succ i ih =>
  intro h j hj
  unfold seekDown at h
  cases hp : p i
  ·rw [if_neg (by simp [hp])] at h
   rcases Nat.lt_succ_iff_lt_or_eq.1 hj with h' | rfl
   ·exact ih h j h'
   ·exact hp
  ·rw [if_pos hp] at h; simp at h
def nextF (l : List Int) (big : Bool) (k : Int) : Int :=
 match seekUp (fun i => beginsB l big i) (k.toNat + 1) (l.length - (k.toNat + 1)) with
 | some r => (r : Int)
 | none => (l.length : Int)
def backF (l : List Int) (big : Bool) (k : Int) : Int :=
 match seekDown (fun i => decide (0 < i) && beginsB l big i) k.toNat with
 | some r => (r : Int)
 | none => 0
def endF (l : List Int) (big : Bool) (k : Int) : Int :=
 match seekUp (fun i => endsB l big i) (k.toNat + 1) (l.length - (k.toNat + 1)) with
 | some r => (r : Int)
 | none => max 0 ((l.length : Int) - 1)
theorem nextF_ref (l : List Int) (big : Bool) (k : Int) (h0 : 0 ≤ k) (hk : k ≤ l.length) : RefNext l big k (nextF l big k) := by
 unfold nextF
 split
 ·rename_i r h
  obtain ⟨h1, h2, h3, h4⟩ := seekUp_some h
  refine ⟨.inl ⟨by omega, by omega, (beginsB_iff _ _ _).1 h3⟩, fun j hj hjr _ hb => ?_⟩
  have := h4 j.toNat (by omega) (by omega)
  rw [show ((j.toNat : Nat) : Int) = j from by omega, (beginsB_iff _ _ _).2 hb] at this
  simp at this
 ·rename_i h
  refine ⟨.inr rfl, fun j hj _ hjl hb => ?_⟩
  have := seekUp_none h j.toNat (by omega) (by omega)
  rw [show ((j.toNat : Nat) : Int) = j from by omega, (beginsB_iff _ _ _).2 hb] at this
  simp at this
theorem backF_ref (l : List Int) (big : Bool) (k : Int) (h0 : 0 ≤ k) : RefBack l big k (backF l big k) := by
 unfold backF
 split
 ·rename_i r h
  obtain ⟨h1, h2, h3⟩ := seekDown_some h
  simp only [Bool.and_eq_true, decide_eq_true_eq] at h2
  refine ⟨.inl ⟨by omega, by omega, (beginsB_iff _ _ _).1 h2.2⟩, fun j hj hjk hj0 hb => ?_⟩
  have := h3 j.toNat (by omega) (by omega)
  rw [show ((j.toNat : Nat) : Int) = j from by omega, (beginsB_iff _ _ _).2 hb] at this
  simp at this; omega
 ·rename_i h
  refine ⟨.inr rfl, fun j hj hjk hj0 hb => ?_⟩
  have := seekDown_none h j.toNat (by omega)
  rw [show ((j.toNat : Nat) : Int) = j from by omega, (beginsB_iff _ _ _).2 hb] at this
  simp at this; omega
theorem endF_ref (l : List Int) (big : Bool) (k : Int) (h0 : 0 ≤ k) : RefEnd l big k (endF l big k) := by
 unfold endF
 split
 ·rename_i r h
  obtain ⟨h1, h2, h3, h4⟩ := seekUp_some h
  refine .inl ⟨by omega, by omega, (endsB_iff _ _ _).1 h3, fun j hj hjr hb => ?_⟩
  have := h4 j.toNat (by omega) (by omega)
  rw [show ((j.toNat : Nat) : Int) = j from by omega, (endsB_iff _ _ _).2 hb] at this
  simp at this
 ·rename_i h
  refine .inr ⟨rfl, fun j hj hjl hb => ?_⟩
  have := seekUp_none h j.toNat (by omega) (by omega)
  rw [show ((j.toNat : Nat) : Int) = j from by omega, (endsB_iff _ _ _).2 hb] at this
  simp at this
theorem nextF_bd (l : List Int) (big : Bool) (k : Int) (h0 : 0 ≤ k) (hk : k ≤ l.length) : 0 ≤ nextF l big k ∧ nextF l big k ≤ l.length := by
 rcases (nextF_ref l big k h0 hk).1 with h | h <;> omega
theorem backF_bd (l : List Int) (big : Bool) (k : Int) (h0 : 0 ≤ k) (hk : k ≤ l.length) : 0 ≤ backF l big k ∧ backF l big k ≤ l.length := by
 rcases (backF_ref l big k h0).1 with h | h <;> omega
theorem endF_bd (l : List Int) (big : Bool) (k : Int) (h0 : 0 ≤ k) (hk : k ≤ l.length) : 0 ≤ endF l big k ∧ endF l big k ≤ l.length := by
 rcases endF_ref l big k h0 with h | h <;> omega
theorem refNext_one {l : List Int} {big : Bool} {k r r' : Int} (h : RefNext l big k r) (h' : RefNext l big k r') (hk : k ≤ l.length) : r = r' := by
 obtain ⟨h1, h2⟩ := h
 obtain ⟨h1', h2'⟩ := h'
 rcases Int.lt_trichotomy r r' with h | h | h
 ·rcases h1 with ⟨a, b, c⟩ | a
  ·exact absurd c (h2' r a h b)
  ·rcases h1' with ⟨a', b', c'⟩ | a' <;> omega
 ·exact h
 ·rcases h1' with ⟨a, b, c⟩ | a
  ·exact absurd c (h2 r' a h b)
  ·rcases h1 with ⟨a', b', c'⟩ | a' <;> omega
theorem refBack_one {l : List Int} {big : Bool} {k r r' : Int} (h : RefBack l big k r) (h' : RefBack l big k r') (hk : 0 ≤ k) : r = r' := by
 obtain ⟨h1, h2⟩ := h
 obtain ⟨h1', h2'⟩ := h'
 rcases Int.lt_trichotomy r r' with h | h | h
 ·rcases h1' with ⟨a, b, c⟩ | a
  ·exact absurd c (h2 r' h b a)
  ·rcases h1 with ⟨a', b', c'⟩ | a' <;> omega
 ·exact h
 ·rcases h1 with ⟨a, b, c⟩ | a
  ·exact absurd c (h2' r h b a)
  ·rcases h1' with ⟨a', b', c'⟩ | a' <;> omega
theorem refEnd_one {l : List Int} {big : Bool} {k r r' : Int} (h : RefEnd l big k r) (h' : RefEnd l big k r') : r = r' := by
 rcases h with ⟨a, b, c, d⟩ | ⟨a, b⟩ <;> rcases h' with ⟨a', b', c', d'⟩ | ⟨a', b'⟩
 ·rcases Int.lt_trichotomy r r' with h | h | h
  ·exact absurd c (d' r a h)
  ·exact h
  ·exact absurd c' (d r' a' h)
 ·exact absurd c (b' r a b)
 ·exact absurd c' (b r' a' b')
 ·rw [a, a']
def iterF (f : Int → Int) : Nat → Int → Int
 | 0, k => k
 | n + 1, k => f (iterF f n k)
theorem iterF_bd {f : Int → Int} {lo hi : Int} (hf : ∀ k, lo ≤ k → k ≤ hi → lo ≤ f k ∧ f k ≤ hi) {k : Int} (h0 : lo ≤ k) (h1 : k ≤ hi) : ∀ n, lo ≤ iterF f n k ∧ iterF f n k ≤ hi := by
 intro n
 induction n with
 | zero => exact ⟨h0, h1⟩
 | succ n ih => exact hf _ ih.1 ih.2
def firstF (l : List Int) : Int :=
 match seekUp (fun i => decide (kindS (ix l i) true ≠ 0)) 0 l.length with
 | some r => (r : Int)
 | none => max 0 ((l.length : Int) - 1)
def plU (l : List Int) (c : Int) (i : Nat) : Nat → List Int
 | 0 => []
 | m + 1 => if ix l i = c then (i : Int) :: plU l c (i + 1) m else plU l c (i + 1) m
def plD (l : List Int) (c : Int) : Nat → List Int
 | 0 => []
 | i + 1 => if ix l i = c then (i : Int) :: plD l c i else plD l c i
theorem plU_hit {l : List Int} {c : Int} {i m : Nat} (h : ix l i = c) : plU l c i (m + 1) = (i : Int) :: plU l c (i + 1) m := if_pos h
theorem plU_miss {l : List Int} {c : Int} {i m : Nat} (h : ix l i ≠ c) : plU l c i (m + 1) = plU l c (i + 1) m := if_neg h
theorem plD_hit {l : List Int} {c : Int} {i : Nat} (h : ix l i = c) : plD l c (i + 1) = (i : Int) :: plD l c i := if_pos h
theorem plD_miss {l : List Int} {c : Int} {i : Nat} (h : ix l i ≠ c) : plD l c (i + 1) = plD l c i := if_neg h
theorem plU_len (l : List Int) (c : Int) (m : Nat) : ∀ i, (plU l c i m).length ≤ m := by
 induction m with
 | zero => intro i; simp [plU]
 | succ m ih =>
  intro i
  have := ih (i + 1)
  unfold plU
  split
  ·simp; omega
  ·omega
theorem plD_len (l : List Int) (c : Int) (i : Nat) : (plD l c i).length ≤ i := by
 induction i with
 | zero => simp [plD]
 | succ i ih =>
  unfold plD
  split
  ·simp; omega
  ·omega
theorem plU_in (l : List Int) (c : Int) (m : Nat) : ∀ i, ∀ x ∈ plU l c i m, (i : Int) ≤ x ∧ x < i + m := by
 induction m with
 | zero => intro i x hx; simp [plU] at hx
 | succ m ih =>
  intro i x hx
  unfold plU at hx
  split at hx
  ·rcases List.mem_cons.1 hx with rfl | hx
   ·omega
   ·have := ih _ x hx; omega
  ·have := ih _ x hx; omega
theorem plD_in (l : List Int) (c : Int) (i : Nat) : ∀ x ∈ plD l c i, 0 ≤ x ∧ x < i := by
 induction i with
 | zero => intro x hx; simp [plD] at hx
 | succ i ih =>
  intro x hx
  unfold plD at hx
  split at hx
  ·rcases List.mem_cons.1 hx with rfl | hx
   ·omega
   ·have := ih x hx; omega
  ·have := ih x hx; omega
def placesR (l : List Int) (k : Nat) (c : Int) : List Int := plU l c (k + 1) (l.length - (k + 1))
def placesL (l : List Int) (k : Nat) (c : Int) : List Int := plD l c k
def partF (l : List Int) (k : Nat) : Int :=
 match seekUp (fun i => decide (openS (ix l i) ≠ 0)) k (l.length - k) with
 | some r => ix (pRun l l.length l.length).out r
 | none => -1
def moS (l : List Int) (k : Nat) (key n arg : Int) (op : Bool) : Option (Int × Bool) :=
 if key = 104 then (if k = 0 then none else some (max 0 (k - n), false))
 else if key = 108 then (if (if op then (l.length : Int) else l.length - 1) ≤ k then none else some (min (if op then (l.length : Int) else l.length - 1) (k + n), false))
 else if key = 48 then some (0, false)
 else if key = 94 then some (firstF l, false)
 else if key = 98 ∨ key = 66 then (if k = 0 then none else some (iterF (backF l (key == 66)) n.toNat k, false))
 else if key = 102 ∨ key = 116 then (match (placesR l k arg)[n.toNat - 1]? with | some at' => some (if key = 116 then at' - 1 else at', true) | none => none)
 else if key = 70 ∨ key = 84 then (match (placesL l k arg)[n.toNat - 1]? with | some at' => some (if key = 84 then at' + 1 else at', false) | none => none)
 else if l.length = 0 then none
 else if key = 36 then some (l.length - 1, true)
 else if key = 124 then some (min n l.length - 1, false)
 else if key = 119 ∨ key = 87 then
  (if op then some (iterF (nextF l (key == 87)) n.toNat k, false)
   else if min (iterF (nextF l (key == 87)) n.toNat k) (l.length - 1) = k then none else some (min (iterF (nextF l (key == 87)) n.toNat k) (l.length - 1), false))
 else if key = 101 ∨ key = 69 then
  (if op = false ∧ iterF (endF l (key == 69)) n.toNat k = k then none else some (iterF (endF l (key == 69)) n.toNat k, true))
 else if partF l k < 0 then none else some (partF l k, true)
def knownS (key : Int) : Bool := [104, 108, 48, 94, 36, 124, 119, 87, 98, 66, 101, 69, 37, 102, 70, 116, 84].contains key
def moveE (l : List Int) (k key count : Int) : Int :=
 if 4096 < l.length then 2 else if k < 0 ∨ (0 < k ∧ (l.length : Int) ≤ k) ∨ count < 0 ∨ 999 < count then 1 else if knownS key then 0 else 9
def findS (key : Int) : Bool := [102, 70, 116, 84].contains key
theorem key_ways (key : Int) : key = 104 ∨ key = 108 ∨ key = 48 ∨ key = 94 ∨ key = 36 ∨ key = 124 ∨ key = 119 ∨ key = 87 ∨ key = 98 ∨ key = 66 ∨ key = 101 ∨ key = 69 ∨ key = 37 ∨ key = 102 ∨ key = 70 ∨ key = 116 ∨ key = 84 ∨ knownS key = false := by
 cases h : knownS key
 ·simp
 ·simp [knownS] at h
  omega
theorem key_none {key : Int} (h : knownS key = false) : (key == 104) = false ∧ (key == 108) = false ∧ (key == 48) = false ∧ (key == 94) = false ∧ (key == 36) = false ∧ (key == 124) = false ∧ (key == 119) = false ∧ (key == 87) = false ∧ (key == 98) = false ∧ (key == 66) = false ∧ (key == 101) = false ∧ (key == 69) = false ∧ (key == 37) = false ∧ (key == 102) = false ∧ (key == 70) = false ∧ (key == 116) = false ∧ (key == 84) = false := by
 simp [knownS] at h
 simp
 omega
theorem find_none {key : Int} (h : knownS key = false) : findS key = false := by
 simp [knownS] at h
 simp [findS]
 omega
set_option maxRecDepth 100000 in
theorem motion_known (key : Int) (w : World) :
  Calls Try.prog 251 #[.int .i64 key] w fun e w' => e = .returned (.tuple #[.bool (knownS key), .bool (findS key)]) ∧ w = w' := by
 rcases key_ways key with rfl | rfl | rfl | rfl | rfl | rfl | rfl | rfl | rfl | rfl | rfl | rfl | rfl | rfl | rfl | rfl | rfl | h
 case inr.inr.inr.inr.inr.inr.inr.inr.inr.inr.inr.inr.inr.inr.inr.inr.inr =>
  obtain ⟨h1, h2, h3, h4, h5, h6, h7, h8, h9, h10, h11, h12, h13, h14, h15, h16, h17⟩ := key_none h
  have HF := Lib.hid (find_none h); have HK := Lib.hid h
  clear h
  go_enter Try.func251, Try.ntmps251
  go_wp2
  go_ret2
  exact ⟨by rw [HF.out, HK.out]; rfl, rfl⟩
 all_goals
  go_enter Try.func251, Try.ntmps251
  go_wp2
  go_ret2
  exact ⟨rfl, rfl⟩
def mvV (key count arg : Int) : Value := .agg #[.int .i64 key, .int .i64 count, .int .i64 arg]
theorem moveE_ways (l : List Int) (k key count : Int) : (4096 < l.length ∧ moveE l k key count = 2) ∨ (l.length ≤ 4096 ∧ ((k < 0 ∨ (0 ≤ k ∧ max 0 ((l.length : Int) - 1) < k)) ∨ (0 ≤ k ∧ k ≤ max 0 ((l.length : Int) - 1) ∧ (count < 0 ∨ 999 < count))) ∧ moveE l k key count = 1)
  ∨ (l.length ≤ 4096 ∧ 0 ≤ k ∧ k ≤ max 0 ((l.length : Int) - 1) ∧ 0 ≤ count ∧ count ≤ 999 ∧ moveE l k key count = if knownS key then 0 else 9) := by
 unfold moveE
 by_cases h1 : 4096 < l.length
 ·left; rw [if_pos h1]; exact ⟨h1, rfl⟩
 ·rw [if_neg h1]
  right
  by_cases h2 : k < 0 ∨ (0 < k ∧ (l.length : Int) ≤ k) ∨ count < 0 ∨ 999 < count
  ·left; rw [if_pos h2]; exact ⟨by omega, by omega, rfl⟩
  ·right; rw [if_neg h2]; exact ⟨by omega, by omega, by omega, by omega, by omega, rfl⟩
set_option maxRecDepth 100000 in
set_option maxHeartbeats 1000000 in
theorem motion_check (a : Option Addr) (n c : Nat) (l : List Int) (k key count arg : Int) (w : World) (hn : l.length = n) (hn2 : n ≤ 9223372036854775807) (hk : InR k) :
  Calls Try.prog 250 #[.slice a n c, .int .i64 k, mvV key count arg] w fun e w' => e = .returned (.int .i64 (moveE l k key count)) ∧ Below w.heap.size w w' := by
 unfold mvV
 obtain ⟨hk1, hk2⟩ := hk
 have hB := Blk.new w #[.int .i64 key, .int .i64 count, .int .i64 arg] 227
 obtain ⟨c0, c1, c2, -, -, -⟩ := hB.three
 have hacc := below1 w (.cells #[.int .i64 key, .int .i64 count, .int .i64 arg] 227)
 rcases moveE_ways l k key count with ⟨h1, h2⟩ | ⟨h1, h2, h3⟩ | ⟨h1, h2, h3, h4, h5, h6⟩
 ·rw [h2]
  rw [hn] at h1
  clear h2 hn
  go_enter Try.func250, Try.ntmps250
  go_wp2
  go_ret
  exact ⟨rfl, hacc⟩
 ·rw [h3]
  rw [hn] at h1 h2
  clear h3 hn
  rcases h2 with (h | ⟨h, h'⟩) | ⟨h, h', h'' | h''⟩
  all_goals
   go_enter Try.func250, Try.ntmps250
   go_wp2
   all_goals
    go_ret
    exact ⟨rfl, hacc⟩
 ·rw [h6]
  rw [hn] at h1 h3
  clear h6 hn
  cases hK : knownS key
  ·have HK := Lib.hid hK; clear hK
   go_enter Try.func250, Try.ntmps250
   go_wp2_with ((go_at_call 251); refine (motion_known _ _).mono ?_; rintro e w' ⟨rfl, rfl⟩; rw [HK.out])
   all_goals
    go_ret
    exact ⟨rfl, hacc⟩
  ·have HK := Lib.hid hK; clear hK
   go_enter Try.func250, Try.ntmps250
   go_wp2_with ((go_at_call 251); refine (motion_known _ _).mono ?_; rintro e w' ⟨rfl, rfl⟩; rw [HK.out])
   all_goals
    go_ret
    exact ⟨rfl, hacc⟩
def goV (a : Option Addr) (n c : Nat) (k : Nat) (m : Int) (op : Bool) : Value := .agg #[.slice a n c, .int .i64 (k : Int), .int .i64 m, .bool op]
theorem Blk.four {w : World} {B : Nat} {u0 u1 u2 u3 : Value} {e : TypeId} (h : Blk w B #[u0, u1, u2, u3] e) : w.cell? ⟨B, 0, none⟩ = some u0 ∧ w.cell? ⟨B, 1, none⟩ = some u1 ∧ w.cell? ⟨B, 2, none⟩ = some u2 ∧ w.cell? ⟨B, 3, none⟩ = some u3 := ⟨h.cell 0, h.cell 1, h.cell 2, h.cell 3⟩
def GotI (v : Int) (w : World) (e : Ending) (w' : World) : Prop := e = .returned (.int .i64 v) ∧ Below w.heap.size w w'
theorem word_next_f (a : Option Addr) (n c : Nat) (l : List Int) (big : Bool) (k : Int) (w : World) (hl : Ints w a l) (hn : l.length = n) (hn2 : n ≤ 4096) (hk0 : 0 ≤ k) (hk1 : k ≤ n) :
  Calls Try.prog 290 #[.slice a n c, .int .i64 k, .bool big] w fun e w' => e = .returned (.tuple #[.int .i64 (nextF l big k), .int .i64 0]) ∧ Below w.heap.size w w' :=
 (word_next_ok a n c l big k w hl hn hn2 hk0 hk1).mono fun e w' ⟨r, h1, h2, h3⟩ => by
  obtain rfl := next_same hk0 (by omega) h2 (nextF_ref l big k hk0 (by omega))
  exact ⟨h1, h3⟩
theorem word_back_f (a : Option Addr) (n c : Nat) (l : List Int) (big : Bool) (k : Int) (w : World) (hl : Ints w a l) (hn : l.length = n) (hn2 : n ≤ 4096) (hk0 : 0 ≤ k) (hk1 : k ≤ n) :
  Calls Try.prog 271 #[.slice a n c, .int .i64 k, .bool big] w fun e w' => e = .returned (.tuple #[.int .i64 (backF l big k), .int .i64 0]) ∧ Below w.heap.size w w' :=
 (word_back_ok a n c l big k w hl hn hn2 hk0 hk1).mono fun e w' ⟨r, h1, h2, h3⟩ => by
  obtain rfl := back_same hk0 (by omega) h2 (backF_ref l big k hk0)
  exact ⟨h1, h3⟩
theorem word_end_f (a : Option Addr) (n c : Nat) (l : List Int) (big : Bool) (k : Int) (w : World) (hl : Ints w a l) (hn : l.length = n) (hn2 : n ≤ 4096) (hk0 : 0 ≤ k) (hk1 : k ≤ n) :
  Calls Try.prog 291 #[.slice a n c, .int .i64 k, .bool big] w fun e w' => e = .returned (.tuple #[.int .i64 (endF l big k), .int .i64 0]) ∧ Below w.heap.size w w' :=
 (word_end_ok a n c l big k w hl hn hn2 hk0 hk1).mono fun e w' ⟨r, h1, h2, h3⟩ => by
  obtain rfl := end_same hk0 (by omega) h2 (endF_ref l big k hk0)
  exact ⟨h1, h3⟩
set_option maxRecDepth 100000 in
set_option maxHeartbeats 1000000 in
theorem goer_times_next (a : Option Addr) (n c : Nat) (l : List Int) (k : Nat) (m : Nat) (op big : Bool) (w : World) (hl : Ints w a l) (hn : l.length = n) (hn2 : n ≤ 4096) (hk : k ≤ n) (hm : m ≤ 1000) :
  Calls Try.prog 270 #[goV a n c k (m : Int) op, .func (.func 290) #[] #[], .bool big] w (GotI (iterF (nextF l big) m k) w) := by
 unfold goV
 have HB := Lib.hid (fun j => iterF_bd (f := nextF l big) (lo := 0) (hi := (n : Int)) (fun x h0 h1 => by rw [← hn]; exact nextF_bd l big x h0 (by omega)) (k := (k : Int)) (by omega) (by omega) j)
 have HN := Lib.hid hn
 clear hn
 have hB := Blk.new w #[.slice a n c, .int .i64 (k : Int), .int .i64 (m : Int), .bool op] 323
 obtain ⟨c0, c1, c2, c3⟩ := hB.four
 have hacc := below1 w (.cells #[.slice a n c, .int .i64 (k : Int), .int .i64 (m : Int), .bool op] 323)
 have hsz : w.heap.size < (w.alloc (.cells #[.slice a n c, .int .i64 (k : Int), .int .i64 (m : Int), .bool op] 323)).heap.size := by simp
 go_enter Try.func270, Try.ntmps270
 go_upto_region 1 with fail
 change Code.wp _ _ _ _ (w.alloc (.cells #[.slice a n c, .int .i64 (k : Int), .int .i64 (m : Int), .bool op] 323))
 generalize (w.alloc (.cells #[.slice a n c, .int .i64 (k : Int), .int .i64 (m : Int), .bool op] 323)) = w1 at *
 go_wp2
 go_loopw [7, 12] (fun v i wr => ∃ j : Nat, i = .int .i64 (j : Int) ∧ j ≤ m ∧ v = .int .i64 (iterF (nextF l big) j (k : Int)) ∧ Blk wr w.heap.size #[.slice a n c, .int .i64 (k : Int), .int .i64 (m : Int), .bool op] 323 ∧ Below w.heap.size w wr) (fun _ i _ => m - (intOf i).toNat)
 case atStart => exact ⟨0, rfl, by omega, rfl, hB, hacc⟩
 case round =>
  obtain ⟨j, rfl, hj, rfl, hB2, hbel⟩ := hrel
  obtain ⟨d0, d1, d2, d3⟩ := hB2.four
  obtain ⟨g0, g1⟩ := HB.out j
  by_cases hlt : j < m
  ·clear c0 c1 c2 c3
   go_wp2_with fail
   refine (word_next_f a n c l big _ _ (hl.below hbel) HN.out hn2 g0 g1).mono ?_
   rintro e w2 ⟨rfl, hb2⟩
   have hb3 := below_then hbel (Nat.le_of_lt hB2.lt) hb2
   have hB3 := hB2.below hb2 hB2.lt
   go_wp2
   go_roundw
   case rel => exact ⟨j + 1, by go_num, by omega, rfl, hB3, hb3⟩
   case measure => simp [intOf]; omega
  ·obtain rfl : j = m := by omega
   go_wp2
   go_ret
   exact ⟨rfl, hbel⟩
set_option maxRecDepth 100000 in
set_option maxHeartbeats 1000000 in
theorem goer_times_back (a : Option Addr) (n c : Nat) (l : List Int) (k : Nat) (m : Nat) (op big : Bool) (w : World) (hl : Ints w a l) (hn : l.length = n) (hn2 : n ≤ 4096) (hk : k ≤ n) (hm : m ≤ 1000) :
  Calls Try.prog 270 #[goV a n c k (m : Int) op, .func (.func 271) #[] #[], .bool big] w (GotI (iterF (backF l big) m k) w) := by
 unfold goV
 have HB := Lib.hid (fun j => iterF_bd (f := backF l big) (lo := 0) (hi := (n : Int)) (fun x h0 h1 => by rw [← hn]; exact backF_bd l big x h0 (by omega)) (k := (k : Int)) (by omega) (by omega) j)
 have HN := Lib.hid hn
 clear hn
 have hB := Blk.new w #[.slice a n c, .int .i64 (k : Int), .int .i64 (m : Int), .bool op] 323
 obtain ⟨c0, c1, c2, c3⟩ := hB.four
 have hacc := below1 w (.cells #[.slice a n c, .int .i64 (k : Int), .int .i64 (m : Int), .bool op] 323)
 have hsz : w.heap.size < (w.alloc (.cells #[.slice a n c, .int .i64 (k : Int), .int .i64 (m : Int), .bool op] 323)).heap.size := by simp
 go_enter Try.func270, Try.ntmps270
 go_upto_region 1 with fail
 change Code.wp _ _ _ _ (w.alloc (.cells #[.slice a n c, .int .i64 (k : Int), .int .i64 (m : Int), .bool op] 323))
 generalize (w.alloc (.cells #[.slice a n c, .int .i64 (k : Int), .int .i64 (m : Int), .bool op] 323)) = w1 at *
 go_wp2
 go_loopw [7, 12] (fun v i wr => ∃ j : Nat, i = .int .i64 (j : Int) ∧ j ≤ m ∧ v = .int .i64 (iterF (backF l big) j (k : Int)) ∧ Blk wr w.heap.size #[.slice a n c, .int .i64 (k : Int), .int .i64 (m : Int), .bool op] 323 ∧ Below w.heap.size w wr) (fun _ i _ => m - (intOf i).toNat)
 case atStart => exact ⟨0, rfl, by omega, rfl, hB, hacc⟩
 case round =>
  obtain ⟨j, rfl, hj, rfl, hB2, hbel⟩ := hrel
  obtain ⟨d0, d1, d2, d3⟩ := hB2.four
  obtain ⟨g0, g1⟩ := HB.out j
  by_cases hlt : j < m
  ·clear c0 c1 c2 c3
   go_wp2_with fail
   refine (word_back_f a n c l big _ _ (hl.below hbel) HN.out hn2 g0 g1).mono ?_
   rintro e w2 ⟨rfl, hb2⟩
   have hb3 := below_then hbel (Nat.le_of_lt hB2.lt) hb2
   have hB3 := hB2.below hb2 hB2.lt
   go_wp2
   go_roundw
   case rel => exact ⟨j + 1, by go_num, by omega, rfl, hB3, hb3⟩
   case measure => simp [intOf]; omega
  ·obtain rfl : j = m := by omega
   go_wp2
   go_ret
   exact ⟨rfl, hbel⟩
set_option maxRecDepth 100000 in
set_option maxHeartbeats 1000000 in
theorem goer_times_end (a : Option Addr) (n c : Nat) (l : List Int) (k : Nat) (m : Nat) (op big : Bool) (w : World) (hl : Ints w a l) (hn : l.length = n) (hn2 : n ≤ 4096) (hk : k ≤ n) (hm : m ≤ 1000) :
  Calls Try.prog 270 #[goV a n c k (m : Int) op, .func (.func 291) #[] #[], .bool big] w (GotI (iterF (endF l big) m k) w) := by
 unfold goV
 have HB := Lib.hid (fun j => iterF_bd (f := endF l big) (lo := 0) (hi := (n : Int)) (fun x h0 h1 => by rw [← hn]; exact endF_bd l big x h0 (by omega)) (k := (k : Int)) (by omega) (by omega) j)
 have HN := Lib.hid hn
 clear hn
 have hB := Blk.new w #[.slice a n c, .int .i64 (k : Int), .int .i64 (m : Int), .bool op] 323
 obtain ⟨c0, c1, c2, c3⟩ := hB.four
 have hacc := below1 w (.cells #[.slice a n c, .int .i64 (k : Int), .int .i64 (m : Int), .bool op] 323)
 have hsz : w.heap.size < (w.alloc (.cells #[.slice a n c, .int .i64 (k : Int), .int .i64 (m : Int), .bool op] 323)).heap.size := by simp
 go_enter Try.func270, Try.ntmps270
 go_upto_region 1 with fail
 change Code.wp _ _ _ _ (w.alloc (.cells #[.slice a n c, .int .i64 (k : Int), .int .i64 (m : Int), .bool op] 323))
 generalize (w.alloc (.cells #[.slice a n c, .int .i64 (k : Int), .int .i64 (m : Int), .bool op] 323)) = w1 at *
 go_wp2
 go_loopw [7, 12] (fun v i wr => ∃ j : Nat, i = .int .i64 (j : Int) ∧ j ≤ m ∧ v = .int .i64 (iterF (endF l big) j (k : Int)) ∧ Blk wr w.heap.size #[.slice a n c, .int .i64 (k : Int), .int .i64 (m : Int), .bool op] 323 ∧ Below w.heap.size w wr) (fun _ i _ => m - (intOf i).toNat)
 case atStart => exact ⟨0, rfl, by omega, rfl, hB, hacc⟩
 case round =>
  obtain ⟨j, rfl, hj, rfl, hB2, hbel⟩ := hrel
  obtain ⟨d0, d1, d2, d3⟩ := hB2.four
  obtain ⟨g0, g1⟩ := HB.out j
  by_cases hlt : j < m
  ·clear c0 c1 c2 c3
   go_wp2_with fail
   refine (word_end_f a n c l big _ _ (hl.below hbel) HN.out hn2 g0 g1).mono ?_
   rintro e w2 ⟨rfl, hb2⟩
   have hb3 := below_then hbel (Nat.le_of_lt hB2.lt) hb2
   have hB3 := hB2.below hb2 hB2.lt
   go_wp2
   go_roundw
   case rel => exact ⟨j + 1, by go_num, by omega, rfl, hB3, hb3⟩
   case measure => simp [intOf]; omega
  ·obtain rfl : j = m := by omega
   go_wp2
   go_ret
   exact ⟨rfl, hbel⟩
end Go.Proofs.Ytmipnikhgihcpaa
