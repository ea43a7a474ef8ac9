/- Contracts of keys.waits and of slices.Equal for commands; digits. -/
import Derived.Test.YtmipnikhgihcpaaKAll1
namespace Go.Proofs.Ytmipnikhgihcpaa
open Go.RowKit
set_option linter.unusedVariables false
set_option linter.unusedSimpArgs false

set_option maxRecDepth 100000 in
set_option maxHeartbeats 2000000 in
theorem keys_waits (a b c d g : Int) (w : World) :
    Calls Try.prog 120 #[.agg #[.int .i64 a, .int .i64 b, .int .i64 c, .int .i64 d, .int .i64 g]] w fun e w' => e = .returned (.bool (waitsB ⟨a, b, c, d, g⟩)) ∧ Below w.heap.size w w' := by
  have hA := Blk.new w #[.int .i64 a, .int .i64 b, .int .i64 c, .int .i64 d, .int .i64 g] 80
  have hacc := below1 w (.cells #[.int .i64 a, .int .i64 b, .int .i64 c, .int .i64 d, .int .i64 g] 80)
  go_enter Try.func120, Try.ntmps120
  go_upto_region 1 with fail
  generalize w.alloc (.cells #[.int .i64 a, .int .i64 b, .int .i64 c, .int .i64 d, .int .i64 g] 80) = w1 at *
  obtain ⟨c0, c1, c2, c3, c4⟩ := hA.five
  go_wp2
  all_goals
    go_ret
    refine ⟨ret1_bool ?_, hacc⟩
    simp only [beq_iff_eq, beq_eq_false_iff_ne, bne_iff_ne, bne_eq_false_iff_eq, ne_eq] at *
    simp [waitsB, fiB, iaB]
    try simp [*]
    try (rw [bne, beqD])

set_option maxRecDepth 100000 in
set_option maxHeartbeats 2000000 in
theorem cmds_same (a b : Option Addr) (n ca cb : Nat) (es : List C5) (w : World) (ha : Cmds w a es) (hb : Cmds w b es) (hn : es.length = n) (hx : n ≤ 1048576) :
    Calls Try.prog 53 #[.slice a n ca, .slice b n cb] w fun e w' => e = .returned (.bool true) ∧ ∃ q, w' = w.drewN q := by
  have HN := Lib.hid hn; clear hn
  go_enter Try.func53, Try.ntmps53
  go_wp2
  go_loopw [13] (fun i wr => ∃ k : Nat, i = .int .i64 (k : Int) ∧ k ≤ n ∧ ∃ q, wr = w.drewN q) (fun i _ => n - (intOf i).toNat)
  case atStart => exact ⟨0, rfl, by omega, 0, rfl⟩
  case round =>
    obtain ⟨k, rfl, hk, q, rfl⟩ := hrel
    by_cases hlt : k < n
    · rcases ha with h | ⟨b1, o1, rfl, h1⟩
      · subst h; have := HN.out; simp at this; omega
      rcases hb with h | ⟨b2, o2, rfl, h2⟩
      · subst h; have := HN.out; simp at this; omega
      have g1 := fun j v hj => h1 k (by rw [HN.out]; exact hlt) j v hj
      have g2 := fun j v hj => h2 k (by rw [HN.out]; exact hlt) j v hj
      have H1 := Lib.hid h1; have H2 := Lib.hid h2
      clear h1 h2
      generalize es[k]'(by rw [HN.out]; exact hlt) = u at *
      have c0 : w.cell? ⟨b1, o1 + k * 5, none⟩ = some (.int .i64 u.a) := g1 0 _ rfl; have c1 : w.cell? ⟨b1, o1 + k * 5 + 1, none⟩ = some (.int .i64 u.b) := g1 1 _ rfl; have c2 : w.cell? ⟨b1, o1 + k * 5 + 2, none⟩ = some (.int .i64 u.c) := g1 2 _ rfl; have c3 : w.cell? ⟨b1, o1 + k * 5 + 3, none⟩ = some (.int .i64 u.d) := g1 3 _ rfl; have c4 : w.cell? ⟨b1, o1 + k * 5 + 4, none⟩ = some (.int .i64 u.e) := g1 4 _ rfl
      have d0 : w.cell? ⟨b2, o2 + k * 5, none⟩ = some (.int .i64 u.a) := g2 0 _ rfl; have d1 : w.cell? ⟨b2, o2 + k * 5 + 1, none⟩ = some (.int .i64 u.b) := g2 1 _ rfl; have d2 : w.cell? ⟨b2, o2 + k * 5 + 2, none⟩ = some (.int .i64 u.c) := g2 2 _ rfl; have d3 : w.cell? ⟨b2, o2 + k * 5 + 3, none⟩ = some (.int .i64 u.d) := g2 3 _ rfl; have d4 : w.cell? ⟨b2, o2 + k * 5 + 4, none⟩ = some (.int .i64 u.e) := g2 4 _ rfl
      have i1 : (k : Int) < (n : Int) := by omega
      clear g1 g2
      go_wp2
      go_quiet (fail)
      go_wp2
      go_roundw
      case rel => exact ⟨k + 1, by go_num, by omega, _, rfl⟩
      case measure => simp [intOf]; omega
    · obtain rfl : k = n := by omega
      go_wp2
      go_ret
      exact ⟨rfl, q, rfl⟩

theorem digP_eq {n : Int} (h0 : 0 ≤ n) (h1 : n ≤ 999) : (if 0 < n then (if 0 < n / 10 then (if 0 < n / 10 / 10 then [48 + n / 10 / 10 % 10] else []) ++ [48 + n / 10 % 10] else []) ++ [48 + n % 10] else []) = digL n := by
  unfold digL
  by_cases a : 100 ≤ n
  · rw [if_pos (show 0 < n by omega), if_pos (show 0 < n / 10 by omega), if_pos (show 0 < n / 10 / 10 by omega), if_pos a, if_pos (show 10 ≤ n by omega), if_pos (show 1 ≤ n by omega), show n / 10 / 10 = n / 100 by omega]
  · by_cases b : 10 ≤ n
    · rw [if_pos (show 0 < n by omega), if_pos (show 0 < n / 10 by omega), if_neg (show ¬ 0 < n / 10 / 10 by omega), if_neg a, if_pos b, if_pos (show 1 ≤ n by omega)]
    · by_cases c : 1 ≤ n
      · rw [if_pos (show 0 < n by omega), if_neg (show ¬ 0 < n / 10 by omega), if_neg a, if_neg b, if_pos c]; rfl
      · rw [if_neg (show ¬ 0 < n by omega), if_neg a, if_neg b, if_neg c]; rfl

end Go.Proofs.Ytmipnikhgihcpaa
