/- Functions of the library package slices, over lists of int. -/
import Derived.Test.YthnjaichbejifaaRows
import Derived.Test.YthnjaichbejifaaBase
import Derived.Deep.QuietTactic
import Derived.BigQuiet
import Derived.Handy
namespace Go.Proofs.Ythnjaichbejifaa
open Go.RowKit
set_option linter.unusedVariables false
set_option linter.unusedSimpArgs false

theorem info_int : (Try.prog.info? 3).map (fun i => (i.zero, i.size, i.bytes)) = some (some (.int .i64 0), 1, 8) := by kernel_rfl

/-- out = append(out, y): numbers, in a row of the call's own -/
theorem app1 {ops : Array Oper} {rest : List Oper} {o : Oper} {a : Act} {Q : Exit → Act → World → Prop} {w : World} (hgd : o.guard = none) (s x : Operand)
    (ho : o.op = .call { callee := .builtin .append, args := #[s, x], argTypes := #[24, 24] })
    (base : Nat) (v : Value) (xs : List Int) (y : Int) (ad : Addr) (hs : a.eval s = v) (hx : a.eval x = .slice (some ad) 1 1)
    (hown : Own 3 base w v xs) (hc : w.cell? ad = some (.int .i64 y)) (hl : xs.length < 17592186044416) (hbase : base ≤ w.heap.size)
    (h : ∀ v' w', Own 3 base w' v' (xs ++ [y]) → w.grownBy w' v.ownBlock → wpList Try.prog ops Q rest (a.put o.dst v') w') :
    wpList Try.prog ops Q (o :: rest) a w := by
  obtain ⟨i0, hi, hz0, hz1, hz2⟩ := info_parts info_int
  refine wpList_append_own w hgd s x 24 ho base 3 i0 (.int .i64 0) 1 8 Try.underlying24 hi hz0 hz1 hz2 rfl (by decide) v xs.length _ hs hown ad 1 1 [.int .i64 y] hx rfl ?_ ?_ ?_ ?_ hbase ?_
  · intro j u hj
    match j with
    | 0 => simp at hj; subst hj; simpa [Addr.add] using hc
    | j + 1 => simp at hj
  · intro u hu; simp at hu; subst hu; rfl
  · unfold maxLen; omega
  · omega
  · intro v' w' h1 h2 _
    refine h v' w' ?_ h2
    unfold Own
    simpa using h1

set_option maxHeartbeats 400000 in
theorem slices_equal (a b : Option Addr) (na nb ca cb : Nat) (xs ys : List Int) (w : World) (ha : Ints w a xs) (hb : Ints w b ys) (hna : xs.length = na) (hnb : ys.length = nb) (hx : na ≤ 9223372036854775807) :
    Calls Try.prog 19 #[.slice a na ca, .slice b nb cb] w fun e w' => e = .returned (.bool (decide (xs = ys))) ∧ ∃ n, w' = w.drewN n := by
  subst hna hnb
  by_cases hl : xs.length = ys.length
  · go_enter Try.func19, Try.ntmps19
    go_wp2
    have HL := Lib.hid hl
    have hy : ys.length ≤ 9223372036854775807 := by omega
    clear hl hx
    go_loopw [13] (fun i wr => ∃ k : Nat, i = .int .i64 k ∧ k ≤ ys.length ∧ (∀ j, j < k → ix xs j = ix ys j) ∧ ∃ n, wr = w.drewN n) (fun i _ => ys.length - (intOf i).toNat)
    case atStart => exact ⟨0, rfl, Nat.zero_le _, fun j hj => by omega, 0, rfl⟩
    case round =>
      obtain ⟨k, rfl, hk, heq, n, rfl⟩ := hrel
      by_cases hlt : k < ys.length
      · obtain ⟨b1, o1, rfl, hc1⟩ := ha.at (k := k) (by rw [HL.out]; exact hlt)
        obtain ⟨b2, o2, rfl, hc2⟩ := hb.at hlt
        have e1 := hc1 k (by rw [HL.out]; exact hlt)
        have e2 := hc2 k hlt
        have HE := Lib.hid heq
        have i1 : (k : Int) < (xs.length : Int) := by rw [HL.out]; omega
        have i2 : (k : Int) < (ys.length : Int) := by omega
        clear hc1 hc2 heq ha hb
        go_wp2
        go_quiet (fail)
        go_wp2
        · go_ret
          have hne : (ix xs k != ix ys k) = true := by assumption
          refine ⟨ret1_bool ?_, _, drewN_drewN _ _ _⟩
          rw [eq_comm, decide_eq_false_iff_not]
          rintro rfl
          simp at hne
        · have hne : (ix xs k != ix ys k) = false := by assumption
          go_roundw
          case rel => exact ⟨k + 1, by go_num, by omega, fun j hj => by
            rcases Nat.lt_succ_iff_lt_or_eq.1 hj with h | rfl
            · exact HE.out j h
            · simpa using hne, _, rfl⟩
          case measure => simp [intOf]; omega
      · go_wp2
        go_ret
        refine ⟨ret1_bool ?_, n, rfl⟩
        rw [eq_comm, decide_eq_true_eq]
        exact ix_ext HL.out fun i hi => heq i (by rw [HL.out] at hi; omega)
  · go_enter Try.func19, Try.ntmps19
    go_wp2
    go_ret
    refine ⟨ret1_bool ?_, 0, rfl⟩
    simp; intro h; exact hl (by rw [h])

end Go.Proofs.Ythnjaichbejifaa
