/- Contracts of (*trie.Trie).at, Has, Count. -/
import Derived.Test.YtmipnikhgihcpaaTrie4
namespace Go.Proofs.Ytmipnikhgihcpaa
open Go.RowKit
set_option linter.unusedVariables false
set_option linter.unusedSimpArgs false

def AtP (A : List (List Int)) (B : Nat → Nat) (p : List Int) (o : Option Addr) : Prop := (p ∉ A ∧ o = none) ∨ ∃ y, y < A.length ∧ rx A y = p ∧ o = some ⟨B y, 0, none⟩
theorem TrH.look {w : World} {base : Nat} {A S : List (List Int)} {B : Nat → Nat} {M : Nat → Option Nat} {Wf : List Int → Bool} {Zf : List Int → Nat} (h : TrH w base A B M Wf Zf) (hI : TInv A S) {x : Nat} (hx : x < A.length) (c : Int) :
    ∃ o, AtP A B (rx A x ++ [c]) o ∧ (Instr.lookup 212 (.map (M x)) (.int .i64 c) false).run Try.prog w = .ok (.pointer o) w := by
  by_cases hin : rx A x ++ [c] ∈ A
  · obtain ⟨y, hy, hk, hr, hl⟩ := hI.kid hin
    obtain ⟨q, hq⟩ := List.getElem?_of_mem hy
    cases hm : M x with
    | none =>
      rw [h.nil x hx hm] at hy; cases hy
    | some b =>
      exact ⟨_, .inr ⟨y, hl, hr, rfl⟩, look_yesQ (k := c) (h.map x b hx hm) (kidX_keys hI.nodup B x) (kidX_mem.2 ⟨q, y, hq, rfl⟩) (by rw [hk])⟩
  · refine ⟨none, .inl ⟨hin, rfl⟩, ?_⟩
    cases hm : M x with
    | none => exact look_nilQ w c
    | some b => exact look_noQ (h.map x b hx hm) (kidX_none (TInv.kidNo hin))
theorem TInv.far {A S : List (List Int)} (h : TInv A S) {p : List Int} {k : Nat} (hp : p.take k ∉ A) : p ∉ A := fun g => hp (h.close _ p _ (Nat.le_refl _) g (List.take_prefix k p))

set_option maxRecDepth 100000 in
set_option maxHeartbeats 2000000 in
theorem trie_at (base : Nat) (A S : List (List Int)) (B : Nat → Nat) (M : Nat → Option Nat) (Wf : List Int → Bool) (Zf : List Int → Nat) (hI : TInv A S) (a : Option Addr) (n c : Nat) (p : List Int) (w : World) (hH : TrH w base A B M Wf Zf) (ha : Ints w a p) (hn : p.length = n) (hc : n ≤ c) (hmax : c ≤ 9223372036854775807) :
    Calls Try.prog 137 #[.pointer (some ⟨B 0, 0, none⟩), .slice a n c] w (fun e w' => ∃ o, e = .returned (.pointer o) ∧ AtP A B p o ∧ w = w') := by
  have HN := Lib.hid hn; have HH := Lib.hid hH; have HA := Lib.hid ha; have HI := Lib.hid hI
  clear hn hH ha hI
  go_enter Try.func137, Try.ntmps137
  go_wp2
  go_loopw [9, 0] (fun x t wr => ∃ j y : Nat, x = .int .i64 (j : Int) ∧ j ≤ n ∧ y < A.length ∧ rx A y = p.take j ∧ t = .pointer (some ⟨B y, 0, none⟩) ∧ w = wr) (fun x _ _ => n - (intOf x).toNat)
  case atStart => exact ⟨0, 0, rfl, by omega, HI.out.pos, by rw [HI.out.root]; rfl, rfl, rfl⟩
  case round =>
    obtain ⟨j, y, rfl, hj, hy, hr, rfl, rfl⟩ := hrel
    by_cases hlt : j < n
    · have hjl : j < p.length := by rw [HN.out]; exact hlt
      obtain ⟨b1, o1, rfl, hcc⟩ := HA.out.at (k := j) hjl
      have cv := hcc j hjl
      have hi0 : (0 : Int) ≤ (j : Int) := by omega
      have hin : (j : Int) < (n : Int) := by omega
      obtain ⟨o, ho, hlk⟩ := HH.out.look HI.out hy (ix p j)
      rw [hr, ← take_succ_ix hjl] at ho
      obtain ⟨y0, -, -, -, -, -⟩ := (HH.out.blk y hy).three
      have HO := Lib.hid ho
      have HA2 := Lib.hid (show Ints w (some ⟨b1, o1, none⟩) p from HA.out)
      clear ho hcc HA hr
      rcases HO.out with ⟨hno, rfl⟩ | ⟨z, hz, hrz, rfl⟩
      · have HNO := Lib.hid (HI.out.far hno)
        clear hno
        go_wp2
        go_ret
        exact ⟨none, rfl, .inl ⟨HNO.out, rfl⟩, rfl⟩
      · have HRZ := Lib.hid hrz
        clear hrz
        go_wp2
        refine ⟨⟨j + 1, z, by go_num, by omega, hz, HRZ.out, rfl, by first | trivial | rfl⟩, by simp [intOf]; omega⟩
    · obtain rfl : j = n := by omega
      have HR := Lib.hid hr
      clear hr hlt
      go_wp2
      go_ret
      exact ⟨_, rfl, .inr ⟨y, hy, by rw [HR.out, ← HN.out, List.take_length], rfl⟩, rfl⟩

set_option maxRecDepth 100000 in
theorem trie_has (base : Nat) (A S : List (List Int)) (B : Nat → Nat) (M : Nat → Option Nat) (hI : TInv A S) (a : Option Addr) (n c : Nat) (p : List Int) (w : World) (hH : TrH w base A B M (inS S) (cnt S)) (ha : Ints w a p) (hn : p.length = n) (hc : n ≤ c) (hmax : c ≤ 9223372036854775807) :
    Calls Try.prog 79 #[.pointer (some ⟨B 0, 0, none⟩), .slice a n c] w (fun e w' => e = .returned (.bool (inS S p)) ∧ w = w') := by
  have HC := Lib.hid (trie_at base A S B M _ _ hI a n c p w hH ha hn hc hmax)
  by_cases hp : p ∈ A
  · obtain ⟨y, hy, hr⟩ := mem_rx hp
    obtain ⟨-, y1, -, -, -, -⟩ := (hH.blk y hy).three
    rw [hr] at y1
    have HI := Lib.hid hI; have HP := Lib.hid hp; have HR := Lib.hid hr
    clear hI hH ha hn hp hr
    go_enter Try.func79, Try.ntmps79
    go_wp2_with (go_at_call 137; go_loud (refine (HC.out).mono ?_; rintro e w3 ⟨o, rfl, ho, rfl⟩; obtain rfl : o = some ⟨B y, 0, none⟩ := (by rcases ho with ⟨h, _⟩ | ⟨z, hz, hrz, rfl⟩; exact absurd HP.out h; rw [rx_inj HI.out.nodup hz hy (hrz.trans HR.out.symm)])))
    go_ret
    exact ⟨rfl, rfl⟩
  · have HP := Lib.hid hp
    have hno := (hI.none hp).1
    rw [hno]
    clear hI hH ha hn hp hno
    go_enter Try.func79, Try.ntmps79
    go_wp2_with (go_at_call 137; go_loud (refine (HC.out).mono ?_; rintro e w3 ⟨o, rfl, ho, rfl⟩; obtain rfl : o = none := (by rcases ho with ⟨_, h⟩ | ⟨z, hz, hrz, rfl⟩; exact h; exact absurd (hrz ▸ rx_memT hz) HP.out)))
    go_ret
    exact ⟨rfl, rfl⟩

set_option maxRecDepth 100000 in
theorem trie_count (base : Nat) (A S : List (List Int)) (B : Nat → Nat) (M : Nat → Option Nat) (hI : TInv A S) (a : Option Addr) (n c : Nat) (p : List Int) (w : World) (hH : TrH w base A B M (inS S) (cnt S)) (ha : Ints w a p) (hn : p.length = n) (hc : n ≤ c) (hmax : c ≤ 9223372036854775807) :
    Calls Try.prog 80 #[.pointer (some ⟨B 0, 0, none⟩), .slice a n c] w (fun e w' => e = .returned (.int .i64 (cnt S p : Nat)) ∧ w = w') := by
  have HC := Lib.hid (trie_at base A S B M _ _ hI a n c p w hH ha hn hc hmax)
  by_cases hp : p ∈ A
  · obtain ⟨y, hy, hr⟩ := mem_rx hp
    obtain ⟨-, -, y2, -, -, -⟩ := (hH.blk y hy).three
    rw [hr] at y2
    have HI := Lib.hid hI; have HP := Lib.hid hp; have HR := Lib.hid hr
    clear hI hH ha hn hp hr
    go_enter Try.func80, Try.ntmps80
    go_wp2_with (go_at_call 137; go_loud (refine (HC.out).mono ?_; rintro e w3 ⟨o, rfl, ho, rfl⟩; obtain rfl : o = some ⟨B y, 0, none⟩ := (by rcases ho with ⟨h, _⟩ | ⟨z, hz, hrz, rfl⟩; exact absurd HP.out h; rw [rx_inj HI.out.nodup hz hy (hrz.trans HR.out.symm)])))
    go_ret
    exact ⟨rfl, rfl⟩
  · have HP := Lib.hid hp
    have hno := (hI.none hp).2
    rw [hno]
    clear hI hH ha hn hp hno
    go_enter Try.func80, Try.ntmps80
    go_wp2_with (go_at_call 137; go_loud (refine (HC.out).mono ?_; rintro e w3 ⟨o, rfl, ho, rfl⟩; obtain rfl : o = none := (by rcases ho with ⟨_, h⟩ | ⟨z, hz, hrz, rfl⟩; exact h; exact absurd (hrz ▸ rx_memT hz) HP.out)))
    go_ret
    exact ⟨rfl, rfl⟩

end Go.Proofs.Ytmipnikhgihcpaa
