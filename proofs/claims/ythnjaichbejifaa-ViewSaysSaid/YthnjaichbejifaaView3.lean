/- Contracts of the functions that ViewSays calls (view, fairref): what each returns, and that it writes nothing that was there. -/
import Derived.Test.YthnjaichbejifaaView2
namespace Go.Proofs.Ythnjaichbejifaa
open Go.RowKit
set_option linter.unusedVariables false
set_option linter.unusedSimpArgs false

theorem view_must (n at' off width : Int) (w : World) :
    Calls Try.prog 83 #[.int .i64 n, .int .i64 at', .int .i64 off, .int .i64 width] w fun e w' => e = .returned (.int .i64 (if (vScroll n at' off width).2 = 0 ∧ (vScroll n at' off width).1 ≠ off then 1 else (vScroll n at' off width).2)) ∧ w = w' := by
  generalize hv : vScroll n at' off width = v
  have HV := Lib.hid hv; clear hv
  go_enter Try.func83, Try.ntmps83
  go_wp2_with fail
  refine (view_scroll n at' off width w).mono ?_
  rintro e w' ⟨rfl, rfl⟩
  rw [HV.out]
  go_wp2
  all_goals (go_ret; refine ⟨ret1_int ?_, rfl⟩; (try simp_all); done)

theorem vScroll_in {n at' off width : Int} (h0 : n ≤ 200) (h1 : 0 ≤ at') (h2 : at' ≤ n) (h3 : 0 ≤ off) (h4 : off ≤ 200) (h5 : 2 ≤ width) (h6 : width ≤ 120) : vScroll n at' off width = (scrollS at' off width, 0) := by
  unfold vScroll scrollS
  rw [if_neg (by omega)]
  (repeat' split) <;> rfl

theorem view_must_ok (n at' off width : Int) (w : World) (h0 : n ≤ 200) (h1 : 0 ≤ at') (h2 : at' ≤ n) (h3 : 0 ≤ off) (h4 : off ≤ 200) (h5 : 2 ≤ width) (h6 : width ≤ 120) (hs : scrollS at' off width = off) :
    Calls Try.prog 83 #[.int .i64 n, .int .i64 at', .int .i64 off, .int .i64 width] w fun e w' => e = .returned (.int .i64 0) ∧ w = w' := by
  refine (view_must n at' off width w).mono ?_
  rintro e w' ⟨rfl, rfl⟩
  rw [vScroll_in h0 h1 h2 h3 h4 h5 h6]
  exact ⟨ret1_int (by simp [hs]), rfl⟩

def RowPost (l : List Int) (at' off width err : Int) (w : World) (e : Ending) (w' : World) : Prop :=
  ∃ v, e = .returned (.tuple #[.agg #[v, .int .i64 (at' - off)], .int .i64 err]) ∧ Own 3 w.heap.size w' v (winS l off width) ∧ Below w.heap.size w w'

set_option maxRecDepth 100000 in
set_option maxHeartbeats 400000 in
theorem view_row_ok (a : Option Addr) (n c : Nat) (l : List Int) (at' off width : Int) (w : World) (hl : Ints w a l) (hn : l.length = n) (hn2 : n ≤ 200) (h1 : 0 ≤ at') (h2 : at' ≤ n) (hs : scrollS at' off width = off) (h3 : 0 ≤ off) (h4 : off ≤ 200) (h5 : 2 ≤ width) (h6 : width ≤ 120) :
    Calls Try.prog 28 #[.slice a n c, .int .i64 at', .int .i64 off, .int .i64 width] w (RowPost l at' off width 0 w) := by
  have HN := Lib.hid hn; clear hn
  obtain ⟨o, rfl⟩ := Int.eq_ofNat_of_zero_le h3
  obtain ⟨d, rfl⟩ := Int.eq_ofNat_of_zero_le (show 0 ≤ width by omega)
  have HS := Lib.hid hs; clear hs
  go_enter Try.func28, Try.ntmps28
  go_wp2_with fail
  refine (view_must_ok _ _ _ _ _ (by omega) (by omega) (by omega) (by omega) (by omega) (by omega) (by omega) HS.out).mono ?_
  rintro e w' ⟨rfl, rfl⟩
  go_wp2
  go_loopw [33] (fun i wr => ∃ k : Nat, i = .int .i64 (k : Int) ∧ k ≤ d ∧ ∃ v, Blk wr w.heap.size #[.slice none 0 0, .int .i64 0] 46 ∧ Blk wr (w.heap.size + 1) #[v, .int .i64 (at' - (o : Int))] 46 ∧
      Own 3 (w.heap.size + 2) wr v ((winS l o d).take k) ∧ Below w.heap.size w wr ∧ w.heap.size + 2 ≤ wr.heap.size) (fun i _ => d - (intOf i).toNat)
  case atStart =>
    refine ⟨0, rfl, Nat.zero_le _, _, (Blk.new _ _ _).alloc _, by simpa using Blk.new (w.alloc _) _ _, Own.nil _ _ _, (((Below.refl _ _).alloc (Nat.le_refl _) _).alloc (by simp) _), by simp⟩
  case round =>
    obtain ⟨k, rfl, hk, v, hB0, hB1, hown, hbel, hsz⟩ := hrel
    have c00 := hB0.cell 0; have c01 := hB0.cell 1; have c10 := hB1.cell 0; have c11 := hB1.cell 1
    have f00 := hB0.free 0; have f01 := hB0.free 1; have f10 := hB1.free 0; have f11 := hB1.free 1
    simp only [List.getElem?_toArray, List.getElem?_cons_zero, List.getElem?_cons_succ] at c00 c01 c10 c11
    have hlen : ((winS l o d).take k).length < 17592186044416 := by simp [winS_length]; omega
    by_cases hlt : k < d
    · by_cases hin : o + k < n
      · obtain ⟨b1, o1, rfl, hc⟩ := hl.at (k := o + k) (by rw [HN.out]; exact hin)
        have e1 : wr.cell? ⟨b1, o1 + (o + k), none⟩ = some (.int .i64 (ix l (o + k))) := by
          have := hc (o + k) (by rw [HN.out]; exact hin)
          rw [hbel.cell (cell_lt this)]; exact this
        clear hc hl
        go_wp2_with (first | (at_builtin; refine app1 rfl _ _ rfl (w.heap.size + 2) _ _ _ _ rfl rfl (hown.alloc _) (cell_new1 _ _ _) hlen (size_alloc_le hsz _) ?_; intro v1 w1 hown1 hgrow1; obtain ⟨a1, n1, m1, rfl⟩ := hown1.form; have hC0 := (hB0.alloc _).grown hgrow1 (hown.ne (Nat.lt_succ_of_lt (Nat.lt_succ_self _))); have hC1 := (hB1.alloc _).grown hgrow1 (hown.ne (Nat.lt_succ_self _)); obtain ⟨d10, d11, g10, g11⟩ := hC1.two) | (go_at_call 29; refine (view_cell _ _).mono ?_; rintro e w' ⟨rfl, rfl⟩))
        go_roundw
        case rel => exact ⟨k + 1, by go_num, by omega, _, hC0.other (by simp) _, hC1.set 0 _, by rw [winS_take (by simpa using hlt)]; exact (by rw [if_pos (by rw [HN.out]; simpa using hin)]; exact hown1.setCell (by simp) _), ((hbel.alloc (by omega) _).grown hgrow1 (by simp; omega) (fun k hk => by have := hown.row k hk; omega)).setCell (by simp) _, by have := hgrow1.size; simp at this ⊢; omega⟩
        case measure => simp [intOf]; omega
      · have hge : n ≤ o + k := by omega
        clear hin
        go_wp2_with (first | (at_builtin; refine app1 rfl _ _ rfl (w.heap.size + 2) _ _ _ _ rfl rfl (hown.alloc _) (cell_new1 _ _ _) hlen (size_alloc_le hsz _) ?_; intro v1 w1 hown1 hgrow1; obtain ⟨a1, n1, m1, rfl⟩ := hown1.form; have hC0 := (hB0.alloc _).grown hgrow1 (hown.ne (Nat.lt_succ_of_lt (Nat.lt_succ_self _))); have hC1 := (hB1.alloc _).grown hgrow1 (hown.ne (Nat.lt_succ_self _)); obtain ⟨d10, d11, g10, g11⟩ := hC1.two))
        go_roundw
        case rel => exact ⟨k + 1, by go_num, by omega, _, hC0.other (by simp) _, hC1.set 0 _, by rw [winS_take (by simpa using hlt)]; exact (by rw [if_neg (by rw [HN.out]; simpa using hge)]; exact hown1.setCell (by simp) _), ((hbel.alloc (by omega) _).grown hgrow1 (by simp; omega) (fun k hk => by have := hown.row k hk; omega)).setCell (by simp) _, by have := hgrow1.size; simp at this ⊢; omega⟩
        case measure => simp [intOf]; omega
    · obtain rfl : k = d := by omega
      obtain ⟨a1, n1, m1, rfl⟩ := hown.form
      go_wp2
      have D := (hB0.set 0 (.slice a1 n1 m1)).set 1 (.int .i64 (at' - (o : Int)))
      obtain ⟨q0, q1, -, -⟩ := Blk.two D
      rw [List.take_of_length_le (by simp [winS_length])] at hown
      refine bodyPost_ret (v := .tuple #[.agg #[.slice a1 n1 m1, .int .i64 (at' - (o : Int))], .int .i64 0]) (by simp [results, Try.results28, go_sem, q0, q1]) rfl ?_
      exact ⟨_, rfl, ((hown.setCell (by simp) _).setCell (by simp) _).mono (by omega), (hbel.setCell (by simp) _).setCell (by simp) _⟩


/-- a row that is refused -/
theorem view_row_bad (a : Option Addr) (n c : Nat) (at' off width : Int) (w : World) (err : Int) (he : err ≠ 0)
    (h : 200 < n ∧ err = 2 ∨ n ≤ 200 ∧ err = (if (vScroll n at' off width).2 = 0 ∧ (vScroll n at' off width).1 ≠ off then 1 else (vScroll n at' off width).2)) :
    Calls Try.prog 28 #[.slice a n c, .int .i64 at', .int .i64 off, .int .i64 width] w fun e w' => e = .returned (.tuple #[.agg #[.slice none 0 0, .int .i64 0], .int .i64 err]) ∧ Below w.heap.size w w' := by
  rcases h with ⟨h1, rfl⟩ | ⟨h1, h2⟩
  · go_enter Try.func28, Try.ntmps28
    go_wp2
    refine bodyPost_ret (v := .tuple #[.agg #[.slice none 0 0, .int .i64 0], .int .i64 2]) (by simp [results, Try.results28, go_sem]) rfl ⟨rfl, (Below.refl _ _).alloc (Nat.le_refl _) _⟩
  · have H2 := Lib.hid h2; clear h2
    have hne : (err != 0) = true := by simpa using he
    clear he
    go_enter Try.func28, Try.ntmps28
    go_wp2_with fail
    refine (view_must _ _ _ _ _).mono ?_
    rintro e w' ⟨rfl, rfl⟩
    rw [← H2.out]
    go_wp2
    refine bodyPost_ret (v := .tuple #[.agg #[.slice none 0 0, .int .i64 0], .int .i64 err]) (by simp [results, Try.results28, go_sem]) rfl ⟨rfl, (Below.refl _ _).alloc (Nat.le_refl _) _⟩

theorem ref_sameRow (a b : Option Addr) (na nb ca cb : Nat) (xs ys : List Int) (p q : Int) (w : World) (ha : Ints w a xs) (hb : Ints w b ys) (hna : xs.length = na) (hnb : ys.length = nb) (hx : na ≤ 9223372036854775807) :
    Calls Try.prog 31 #[.agg #[.slice a na ca, .int .i64 p], .agg #[.slice b nb cb, .int .i64 q]] w fun e w' => e = .returned (.bool (decide (p = q ∧ xs = ys))) ∧ Below w.heap.size w w' := by
  by_cases hpq : p = q
  · subst hpq
    go_enter Try.func31, Try.ntmps31
    go_wp2_with fail
    refine (slices_equal a b na nb ca cb xs ys _ (ha.below (below2 _ _ _)) (hb.below (below2 _ _ _)) hna hnb hx).mono ?_
    rintro e w' ⟨rfl, m, rfl⟩
    go_wp2
    go_ret
    exact ⟨ret1_bool (by simp), below_drewN (below2 _ _ _) _⟩
  · have hb' : (p == q) = false := by simpa using hpq
    go_enter Try.func31, Try.ntmps31
    go_wp2_with fail
    go_ret
    exact ⟨ret1_bool (by simp [hpq]), ((Below.refl _ _).alloc (Nat.le_refl _) _).alloc (by simp) _⟩

end Go.Proofs.Ythnjaichbejifaa
