/- Functions of the library package slices, over lists of int. -/
import Derived.Test.YtmipnikhgihcpaaRows
import Derived.Test.YtmipnikhgihcpaaBase
import Derived.Deep.QuietTactic
import Derived.BigQuiet
import Derived.Handy
import Derived.Lib.SliceRun
namespace Go.Proofs.Ytmipnikhgihcpaa
open Go.RowKit
set_option linter.unusedVariables false
set_option linter.unusedSimpArgs false

theorem info_int : (Try.prog.info? 3).map (fun i => (i.zero, i.size, i.bytes)) = some (some (.int .i64 0), 1, 8) := by kernel_rfl

/-- out = append(out, y): numbers, in a row of the call's own -/
theorem app1 {ops : Array Oper} {rest : List Oper} {o : Oper} {a : Act} {Q : Exit → Act → World → Prop} {w : World} (hgd : o.guard = none) (s x : Operand)
    (ho : o.op = .call { callee := .builtin .append, args := #[s, x], argTypes := #[22, 22] })
    (base : Nat) (v : Value) (xs : List Int) (y : Int) (ad : Addr) (hs : a.eval s = v) (hx : a.eval x = .slice (some ad) 1 1)
    (hown : Own 3 base w v xs) (hc : w.cell? ad = some (.int .i64 y)) (hl : xs.length < 17592186044416) (hbase : base ≤ w.heap.size)
    (h : ∀ v' w', Own 3 base w' v' (xs ++ [y]) → w.grownBy w' v.ownBlock → wpList Try.prog ops Q rest (a.put o.dst v') w') :
    wpList Try.prog ops Q (o :: rest) a w := by
  obtain ⟨i0, hi, hz0, hz1, hz2⟩ := info_parts info_int
  refine wpList_append_own w hgd s x 22 ho base 3 i0 (.int .i64 0) 1 8 Try.underlying22 hi hz0 hz1 hz2 rfl (by decide) v xs.length _ hs hown ad 1 1 [.int .i64 y] hx rfl ?_ ?_ ?_ ?_ hbase ?_
  · intro j u hj
    match j with
    | 0 => simp at hj; subst hj; simpa [Addr.add] using hc
    | j + 1 => simp at hj
  · intro u hu; simp at hu; subst hu; rfl
  · unfold maxLen; omega
  · omega
  · intro v' w' h1 h2 _
    refine h v' w' ?_ h2
    unfold Own
    simpa using h1

/-- append(out, y) as an operation of a region that draws its order -/
theorem step_app1 {ops : Array Oper} {o : Oper} {a : Act} {K : Act → World → Prop} {Q : Exit → Act → World → Prop} {w : World} {E : Prop} (hw : Region.wanted o (yielded ops a.tmps) = true) (s x : Operand)
    (ho : o.op = .call { callee := .builtin .append, args := #[s, x], argTypes := #[22, 22] })
    (base : Nat) (v : Value) (xs : List Int) (y : Int) (ad : Addr) (hs : a.eval s = v) (hx : a.eval x = .slice (some ad) 1 1)
    (hown : Own 3 base w v xs) (hc : w.cell? ad = some (.int .i64 y)) (hl : xs.length < 17592186044416) (hbase : base ≤ w.heap.size)
    (h : ∀ v' w', Own 3 base w' v' (xs ++ [y]) → w.grownBy w' v.ownBlock → K (a.put o.dst v') w') :
    if Region.wanted o (yielded ops a.tmps) = true then Oper.wp Try.prog o a w K Q else E := by
  rw [if_pos hw]
  obtain ⟨i0, hi, hz0, hz1, hz2⟩ := info_parts info_int
  refine wp_append_own w s x 22 ho base 3 i0 (.int .i64 0) 1 8 Try.underlying22 hi hz0 hz1 hz2 rfl (by decide) v xs.length _ hs hown ad 1 1 [.int .i64 y] hx rfl ?_ ?_ ?_ ?_ hbase ?_
  · intro j u hj
    match j with
    | 0 => simp at hj; subst hj; simpa [Addr.add] using hc
    | j + 1 => simp at hj
  · intro u hu; simp at hu; subst hu; rfl
  · unfold maxLen; omega
  · omega
  · intro v' w' h1 h2 _
    refine h v' w' ?_ h2
    unfold Own
    simpa using h1

/-- out = append(out, src...): numbers from whatever slice, onto a row of the call's own -/
theorem wp_appN {o : Oper} {a : Act} {K : Act → World → Prop} {Q : Exit → Act → World → Prop} {w : World} (s x : Operand)
    (ho : o.op = .call { callee := .builtin .append, args := #[s, x], argTypes := #[22, 22] })
    (base : Nat) (v : Value) (xs ys : List Int) (ad : Addr) (m c : Nat) (hs : a.eval s = v) (hx : a.eval x = .slice (some ad) m c)
    (hown : Own 3 base w v xs) (hy : Ints w (some ad) ys) (hm : ys.length = m) (hl : xs.length + m ≤ 17592186044416) (hbase : base ≤ w.heap.size)
    (h : ∀ v' w', Own 3 base w' v' (xs ++ ys) → w.grownBy w' v.ownBlock → (v' = .slice none 0 0 ↔ v = .slice none 0 0 ∧ m = 0) → K (a.put o.dst v') w') :
    o.wp Try.prog a w K Q := by
  obtain ⟨i0, hi, hz0, hz1, hz2⟩ := info_parts info_int
  refine wp_append_own w s x 22 ho base 3 i0 (.int .i64 0) 1 8 Try.underlying22 hi hz0 hz1 hz2 rfl (by decide) v xs.length _ hs hown ad m c (ys.map (Value.int .i64)) hx (by simp [hm]) ?_ ?_ ?_ ?_ hbase ?_
  · intro j u hj
    have hlt : j < ys.length := by
      rcases Nat.lt_or_ge j ys.length with h | h
      · exact h
      · simp [h] at hj
    rcases hy with hy | ⟨b, o', ha, hc⟩
    · subst hy; simp at hlt
    · simp only [Option.some.injEq] at ha
      subst ha
      have hadd : (⟨b, o', none⟩ : Addr).add j = ⟨b, o' + j, none⟩ := by unfold Addr.add; split <;> simp_all
      rw [hadd, hc j hlt]
      rw [List.getElem?_map, List.getElem?_eq_getElem hlt] at hj
      rw [ix_eq hlt]; exact hj
  · intro u hu
    obtain ⟨y, _, rfl⟩ := List.mem_map.1 hu
    rfl
  · unfold maxLen; omega
  · omega
  · intro v' w' h1 h2 h3
    refine h v' w' ?_ h2 h3
    unfold Own
    simpa [hm] using h1

theorem appN {ops : Array Oper} {rest : List Oper} {o : Oper} {a : Act} {Q : Exit → Act → World → Prop} {w : World} (hgd : o.guard = none) (s x : Operand)
    (ho : o.op = .call { callee := .builtin .append, args := #[s, x], argTypes := #[22, 22] })
    (base : Nat) (v : Value) (xs ys : List Int) (ad : Addr) (m c : Nat) (hs : a.eval s = v) (hx : a.eval x = .slice (some ad) m c)
    (hown : Own 3 base w v xs) (hy : Ints w (some ad) ys) (hm : ys.length = m) (hl : xs.length + m ≤ 17592186044416) (hbase : base ≤ w.heap.size)
    (h : ∀ v' w', Own 3 base w' v' (xs ++ ys) → w.grownBy w' v.ownBlock → (v' = .slice none 0 0 ↔ v = .slice none 0 0 ∧ m = 0) → wpList Try.prog ops Q rest (a.put o.dst v') w') :
    wpList Try.prog ops Q (o :: rest) a w :=
  wpList_plain hgd fun _ hK => wp_appN s x ho base v xs ys ad m c hs hx hown hy hm hl hbase fun v' w' h1 h2 h3 => hK _ _ (h v' w' h1 h2 h3)

/-- the row of a composite literal of no number -/
theorem own_lit0 (w : World) (base : Nat) (hb : base ≤ w.heap.size) : Own 3 base (w.alloc (.cells #[] 3)) (.slice (some ⟨w.heap.size, 0, none⟩) 0 0) [] :=
  World.ownsRow_made w #[] 0 hb (by unfold maxLen; omega) rfl

def ClonePost (xs : List Int) (w : World) (e : Ending) (w' : World) : Prop := ∃ v, e = .returned v ∧ Own 3 w.heap.size w' v xs ∧ Below w.heap.size w w'

theorem slices_clone (a : Option Addr) (n c : Nat) (xs : List Int) (w : World) (ha : Ints w a xs) (hn : xs.length = n) (hl : n ≤ 17592186044416) (h0 : a = none → n = 0) :
    Calls Try.prog 98 #[.slice a n c] w (ClonePost xs w) := by
  have he := fun (w : World) (n' c' : Nat) => Lib.run_eql_slice_nil (P := Try.prog) w 22 3 a n c n' c' Try.underlying22
  rcases a with _ | ad
  · obtain rfl : n = 0 := h0 rfl
    obtain rfl : xs = [] := List.eq_nil_of_length_eq_zero hn
    clear hn h0 ha
    go_enter Try.func98, Try.ntmps98
    go_wp2
    go_ret
    exact ⟨_, rfl, Own.nil _ _ _, Below.refl _ _⟩
  · have HN := Lib.hid hn; clear hn h0
    go_enter Try.func98, Try.ntmps98
    go_wp2_with (at_builtin; refine appN rfl _ _ rfl w.heap.size _ _ xs ad n c rfl rfl (own_lit0 w w.heap.size (Nat.le_refl _)) (ha.below (below1 _ _)) HN.out (by simpa using hl) (by simp) ?_; intro v1 w1 hown1 hgrow1 _)
    go_ret
    exact ⟨v1, rfl, by simpa using hown1, (below1 w _).grown hgrow1 (by simp) (own_lit0 w w.heap.size (Nat.le_refl _)).row⟩

set_option maxHeartbeats 400000 in
theorem slices_equal (a b : Option Addr) (na nb ca cb : Nat) (xs ys : List Int) (w : World) (ha : Ints w a xs) (hb : Ints w b ys) (hna : xs.length = na) (hnb : ys.length = nb) (hx : na ≤ 9223372036854775807) :
    Calls Try.prog 22 #[.slice a na ca, .slice b nb cb] w fun e w' => e = .returned (.bool (decide (xs = ys))) ∧ ∃ n, w' = w.drewN n := by
  subst hna hnb
  by_cases hl : xs.length = ys.length
  · go_enter Try.func22, Try.ntmps22
    go_wp2
    have HL := Lib.hid hl
    have hy : ys.length ≤ 9223372036854775807 := by omega
    clear hl hx
    go_loopw [13] (fun i wr => ∃ k : Nat, i = .int .i64 k ∧ k ≤ ys.length ∧ (∀ j, j < k → ix xs j = ix ys j) ∧ ∃ n, wr = w.drewN n) (fun i _ => ys.length - (intOf i).toNat)
    case atStart => exact ⟨0, rfl, Nat.zero_le _, fun j hj => by omega, 0, rfl⟩
    case round =>
      obtain ⟨k, rfl, hk, heq, n, rfl⟩ := hrel
      by_cases hlt : k < ys.length
      · obtain ⟨b1, o1, rfl, hc1⟩ := ha.at (k := k) (by rw [HL.out]; exact hlt)
        obtain ⟨b2, o2, rfl, hc2⟩ := hb.at hlt
        have e1 := hc1 k (by rw [HL.out]; exact hlt)
        have e2 := hc2 k hlt
        have HE := Lib.hid heq
        have i1 : (k : Int) < (xs.length : Int) := by rw [HL.out]; omega
        have i2 : (k : Int) < (ys.length : Int) := by omega
        clear hc1 hc2 heq ha hb
        go_wp2
        go_quiet (fail)
        go_wp2
        · go_ret
          have hne : (ix xs k != ix ys k) = true := by assumption
          refine ⟨ret1_bool ?_, _, drewN_drewN _ _ _⟩
          rw [eq_comm, decide_eq_false_iff_not]
          rintro rfl
          simp at hne
        · have hne : (ix xs k != ix ys k) = false := by assumption
          go_roundw
          case rel => exact ⟨k + 1, by go_num, by omega, fun j hj => by
            rcases Nat.lt_succ_iff_lt_or_eq.1 hj with h | rfl
            · exact HE.out j h
            · simpa using hne, _, rfl⟩
          case measure => simp [intOf]; omega
      · go_wp2
        go_ret
        refine ⟨ret1_bool ?_, n, rfl⟩
        rw [eq_comm, decide_eq_true_eq]
        exact ix_ext HL.out fun i hi => heq i (by rw [HL.out] at hi; omega)
  · go_enter Try.func22, Try.ntmps22
    go_wp2
    go_ret
    refine ⟨ret1_bool ?_, 0, rfl⟩
    simp; intro h; exact hl (by rw [h])

/-- make([]int, l, c) -/
theorem make_int (l c : Nat) (h : l ≤ c) (hc : c ≤ 17592186044416) (w : World) :
    (Instr.makeSlice 22 (.int .i64 (l : Int)) (.int .i64 (c : Int))).run Try.prog w = .ok (.slice (some ⟨w.heap.size, 0, none⟩) l c) (w.alloc (.cells (madeCells #[.int .i64 0] c) 3)) := by
  obtain ⟨i0, hi, hz0, hz1, hz2⟩ := info_parts info_int
  have := run_make (P := Try.prog) w 22 3 i0 (.int .i64 0) Try.underlying22 hi hz0 .i64 .i64 l c (by omega) (by omega) (by rw [hz2]; omega) (by omega)
  rw [hz1, Int.toNat_natCast, Int.toNat_natCast, Nat.mul_one] at this
  exact this
theorem own_made (w : World) (base c : Nat) (hb : base ≤ w.heap.size) (hc : c ≤ 17592186044416) : Own 3 base (w.alloc (.cells (madeCells #[.int .i64 0] c) 3)) (.slice (some ⟨w.heap.size, 0, none⟩) 0 c) [] :=
  World.ownsRow_made w _ c hb (by unfold maxLen; omega) (by rw [size_madeCells, Nat.mul_one])

theorem slices_eqb (a b : Option Addr) (na nb ca cb : Nat) (xs ys : List Int) (t : Bool) (ht : t = true ↔ xs = ys) (w : World) (ha : Ints w a xs) (hb : Ints w b ys) (hna : xs.length = na) (hnb : ys.length = nb) (hx : na ≤ 9223372036854775807) :
    Calls Try.prog 22 #[.slice a na ca, .slice b nb cb] w fun e w' => e = .returned (.bool t) ∧ ∃ n, w' = w.drewN n := by
  refine (slices_equal a b na nb ca cb xs ys w ha hb hna hnb hx).mono ?_
  rintro e w' ⟨rfl, h⟩
  refine ⟨ret1_bool ?_, h⟩
  rw [Bool.eq_iff_iff, decide_eq_true_eq]; exact ht.symm

theorem slices_same (a b : Option Addr) (na nb ca cb : Nat) (xs : List Int) (w : World) (ha : Ints w a xs) (hb : Ints w b xs) (hna : xs.length = na) (hnb : xs.length = nb) (hx : na ≤ 9223372036854775807) :
    Calls Try.prog 22 #[.slice a na ca, .slice b nb cb] w fun e w' => e = .returned (.bool true) ∧ ∃ n, w' = w.drewN n := by
  refine (slices_equal a b na nb ca cb xs xs w ha hb hna hnb hx).mono ?_
  rintro e w' ⟨rfl, h⟩
  exact ⟨ret1_bool (by simp), h⟩

end Go.Proofs.Ytmipnikhgihcpaa
