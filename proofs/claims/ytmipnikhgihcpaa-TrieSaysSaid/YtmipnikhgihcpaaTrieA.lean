/- Contracts of (*trie.Trie).Words and of what it hands out. -/
import Derived.Test.YtmipnikhgihcpaaTrie9
namespace Go.Proofs.Ytmipnikhgihcpaa
open Go.RowKit Go.Shelf
set_option linter.unusedVariables false
set_option linter.unusedSimpArgs false
attribute [local go_sem] Oper.semAt_some

theorem trie_words (o : Option Addr) (a : Option Addr) (m c : Nat) (w : World) :
    Calls Try.prog 139 #[.pointer o, .slice a m c] w (fun e w' => e = .returned (.func (.func 177) #[] #[.pointer (some ⟨w.heap.size, 0, none⟩), .pointer (some ⟨w.heap.size + 1, 0, none⟩)]) ∧ (w.alloc (.cells #[.pointer o] 120)).alloc (.cells #[.slice a m c] 22) = w') := by
  go_enter Try.func139, Try.ntmps139
  go_wp2
  go_ret
  exact ⟨rfl, rfl⟩

theorem begS_none {A S : List (List Int)} (hI : TInv A S) {p : List Int} (hp : p ∉ A) : begS S p = [] := by
  refine List.eq_nil_of_length_eq_zero ?_
  rw [begS_len, (hI.none hp).2]

set_option maxRecDepth 100000 in
set_option maxHeartbeats 1000000 in
theorem trie_hands (W0 : World) (bs : Nat) (A S : List (List Int)) (B : Nat → Nat) (M : Nat → Option Nat) (hH : TrH W0 bs A B M (inS S) (cnt S)) (hI : TInv A S) (hS : S.Nodup) (hA : A.length ≤ 100000)
    (p : List Int) (a : Option Addr) (m c : Nat) (ha : Ints W0 a p) (hm : p.length = m) (hmc : m ≤ c) (hc : c ≤ 9223372036854775807) (h0 : a = none → m = 0)
    (n b1 b2 : Nat) (w : World) (hb : Below W0.heap.size W0 w) (c1 : w.cell? ⟨b1, 0, none⟩ = some (.pointer (some ⟨B 0, 0, none⟩))) (c2 : w.cell? ⟨b2, 0, none⟩ = some (.slice a m c)) :
    Hands W0.heap.size n 177 #[.pointer (some ⟨b1, 0, none⟩), .pointer (some ⟨b2, 0, none⟩)] (begS S p) w := by
  intro l J Jx W1 hb1 hJ hY hj
  have d1 : W1.cell? ⟨b1, 0, none⟩ = some (.pointer (some ⟨B 0, 0, none⟩)) := (hb1.cell (cell_lt c1)).trans c1
  have d2 : W1.cell? ⟨b2, 0, none⟩ = some (.slice a m c) := (hb1.cell (cell_lt c2)).trans c2
  have hbW : Below W0.heap.size W0 W1 := hb.trans (hb1.mono hb.size)
  have HAT := Lib.hid (trie_at bs A S B M _ _ hI a m c p W1 (hH.kept hbW) (ha.below hbW) hm hmc hc)
  have HJ := Lib.hid hj
  by_cases hp : p ∈ A
  · obtain ⟨y, hy, hr⟩ := mem_rx hp
    have HEA := Lib.hid (trie_each W0 l (begS S p).length J Jx hJ hY bs A S B M hH hI hS hA 24 hI.short (by omega) 25 y (n - 1) a m c [] W1 (by omega) hy hbW ⟨a, m, c, rfl, by rw [hr]; exact hm, hmc, hc, h0, by rw [hr]; exact ha.ir.keep ⟨hbW, fun k cs fr e => by
      rw [hbW.block k (Array.getElem?_eq_some_iff.1 e).1]; exact e⟩⟩ hj (by rw [hr]; simp))
    rw [hr] at HEA
    have HR := Lib.hid hr; have HP := Lib.hid hp; have HI := Lib.hid hI
    clear hj ha hp hr hH hI hY hJ c1 c2
    refine callsIn_of_wp Try.func177 rfl trivial ?_ rfl
    simp only [Try.ntmps177, List.size_toArray, List.length_cons, List.length_nil, Nat.reduceAdd, Nat.reduceSub, Array.replicate_succ, Array.replicate_zero, List.push_toArray, List.append_toArray, List.nil_append, List.cons_append]
    gi_wp2
    refine ⟨trivial, wide_d _, (callsIn_wide.2 HAT.out).mono ?_⟩
    rintro e W2 ⟨o, rfl, ho, rfl⟩
    obtain rfl : o = some ⟨B y, 0, none⟩ := by
      rcases ho with ⟨h, _⟩ | ⟨z, hz, hrz, rfl⟩
      · exact absurd HP.out h
      · rw [rx_inj HI.out.nodup hz hy (hrz.trans HR.out.symm)]
    gi_wp2
    refine ⟨trivial, wide_d _, HEA.out.mono ?_⟩
    rintro e W2 ⟨t, rfl, h, hk⟩
    gi_wp2
    go_end0
    refine ⟨⟨_, rfl⟩, ?_⟩
    rcases h with ⟨-, h⟩ | ⟨-, q, hq, h⟩
    · exact .inl (by simpa using h)
    · exact .inr ⟨q, hq, by simpa using h⟩
  · rw [begS_none hI hp]
    have HP := Lib.hid hp
    clear hj ha hp hH hI hY hJ c1 c2
    refine callsIn_of_wp Try.func177 rfl trivial ?_ rfl
    simp only [Try.ntmps177, List.size_toArray, List.length_cons, List.length_nil, Nat.reduceAdd, Nat.reduceSub, Array.replicate_succ, Array.replicate_zero, List.push_toArray, List.append_toArray, List.nil_append, List.cons_append]
    gi_wp2
    refine ⟨trivial, wide_d _, (callsIn_wide.2 HAT.out).mono ?_⟩
    rintro e W2 ⟨o, rfl, ho, rfl⟩
    obtain rfl : o = none := by
      rcases ho with ⟨_, h⟩ | ⟨z, hz, hrz, rfl⟩
      · exact h
      · exact absurd (hrz ▸ rx_memT hz) HP.out
    gi_wp2
    go_end0
    exact ⟨⟨_, rfl⟩, .inl HJ.out⟩

end Go.Proofs.Ytmipnikhgihcpaa
