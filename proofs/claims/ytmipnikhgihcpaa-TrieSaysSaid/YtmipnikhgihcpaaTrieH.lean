/- Contract of (*trie.Trie).More. -/
import Derived.Test.YtmipnikhgihcpaaTrieA
import Derived.Test.YtmipnikhgihcpaaTrie7
namespace Go.Proofs.Ytmipnikhgihcpaa
open Go.RowKit
set_option linter.unusedVariables false
set_option linter.unusedSimpArgs false

/-- one way on, and no word here -/
def Lone (A S : List (List Int)) (q : List Int) : Prop := inS S q = false ∧ ∃ z, z < A.length ∧ rx A z = q ∧ (kidsT A z).length = 1
def MoreT (A S : List (List Int)) (p out : List Int) : Prop := (∀ i, i < out.length → Lone A S (p ++ out.take i)) ∧ ∃ y, y < A.length ∧ rx A y = p ++ out ∧ (inS S (rx A y) = true ∨ (kidsT A y).length ≠ 1)

set_option maxRecDepth 100000 in
set_option maxHeartbeats 1000000 in
theorem trie_more_none (bs : Nat) (A S : List (List Int)) (B : Nat → Nat) (M : Nat → Option Nat) (hI : TInv A S) (a : Option Addr) (n c : Nat) (p : List Int) (w : World) (hH : TrH w bs A B M (inS S) (cnt S)) (ha : Ints w a p) (hn : p.length = n) (hc : n ≤ c) (hmax : c ≤ 9223372036854775807) (h0 : cnt S p = 0) :
    Calls Try.prog 77 #[.pointer (some ⟨B 0, 0, none⟩), .slice a n c] w (fun e w' => e = .returned (.tuple #[.slice none 0 0, .int .i64 6]) ∧ w = w') := by
  have HC := Lib.hid (trie_at bs A S B M _ _ hI a n c p w hH ha hn hc hmax)
  by_cases hp : p ∈ A
  · obtain ⟨y, hy, hr⟩ := mem_rx hp
    obtain ⟨-, -, y2, -, -, -⟩ := (hH.blk y hy).three
    rw [hr, h0] at y2
    have HI := Lib.hid hI; have HP := Lib.hid hp; have HR := Lib.hid hr
    clear hI hH ha hn hp hr h0
    go_enter Try.func77, Try.ntmps77
    go_wp2_with (go_at_call 137; go_loud (refine (HC.out).mono ?_; rintro e w3 ⟨o, rfl, ho, rfl⟩; obtain rfl : o = some ⟨B y, 0, none⟩ := (by rcases ho with ⟨h, _⟩ | ⟨z, hz, hrz, rfl⟩; exact absurd HP.out h; rw [rx_inj HI.out.nodup hz hy (hrz.trans HR.out.symm)])))
    go_ret2
    exact ⟨rfl, rfl⟩
  · have HP := Lib.hid hp
    clear hI hH ha hn hp h0
    go_enter Try.func77, Try.ntmps77
    go_wp2_with (go_at_call 137; go_loud (refine (HC.out).mono ?_; rintro e w3 ⟨o, rfl, ho, rfl⟩; obtain rfl : o = none := (by rcases ho with ⟨_, h⟩ | ⟨z, hz, hrz, rfl⟩; exact h; exact absurd (hrz ▸ rx_memT hz) HP.out)))
    go_ret2
    exact ⟨rfl, rfl⟩

end Go.Proofs.Ytmipnikhgihcpaa
