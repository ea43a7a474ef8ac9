/- Contracts of the functions that ViewSays calls (view, fairref): what each returns, and that it writes nothing that was there. -/
import Derived.Test.YthnjaichbejifaaView
namespace Go.Proofs.Ythnjaichbejifaa
open Go.RowKit
set_option linter.unusedVariables false
set_option linter.unusedSimpArgs false

def winS (l : List Int) (off width : Int) : List Int := (List.range width.toNat).map fun i => if off.toNat + i < l.length then cellS (ix l (off.toNat + i)) else 32

theorem winS_length (l : List Int) (off width : Int) : (winS l off width).length = width.toNat := by simp [winS]
theorem winS_take {l : List Int} {off width : Int} {k : Nat} (h : k < width.toNat) : (winS l off width).take (k + 1) = (winS l off width).take k ++ [if off.toNat + k < l.length then cellS (ix l (off.toNat + k)) else 32] := by
  rw [List.take_succ_eq_append_getElem (by rw [winS_length]; exact h)]; simp [winS]

def WinPost (l : List Int) (at' off width : Int) (w : World) (e : Ending) (w' : World) : Prop :=
  ∃ v, e = .returned (.agg #[v, .int .i64 (at' - off)]) ∧ Own 3 w.heap.size w' v (winS l off width) ∧ Below w.heap.size w w'

set_option maxRecDepth 100000 in
set_option maxHeartbeats 400000 in
theorem ref_window (a : Option Addr) (n c : Nat) (l : List Int) (at' off width : Int) (w : World) (hl : Ints w a l) (hn : l.length = n) (hn2 : n ≤ 200) (h1 : 0 ≤ at') (h2 : at' ≤ 200) (h3 : 0 ≤ off) (h4 : off ≤ 200) (h5 : 2 ≤ width) (h6 : width ≤ 120) :
    Calls Try.prog 32 #[.slice a n c, .int .i64 at', .int .i64 off, .int .i64 width] w (WinPost l at' off width w) := by
  have HN := Lib.hid hn; clear hn
  obtain ⟨o, rfl⟩ := Int.eq_ofNat_of_zero_le h3
  obtain ⟨d, rfl⟩ := Int.eq_ofNat_of_zero_le (show 0 ≤ width by omega)
  go_enter Try.func32, Try.ntmps32
  go_wp2
  go_loopw [10] (fun i wr => ∃ k : Nat, i = .int .i64 ((o + k : Nat) : Int) ∧ k ≤ d ∧ ∃ v, Blk wr w.heap.size #[.slice none 0 0, .int .i64 0] 46 ∧ Blk wr (w.heap.size + 1) #[v, .int .i64 (at' - (o : Int))] 46 ∧
      Own 3 (w.heap.size + 2) wr v ((winS l o d).take k) ∧ Below w.heap.size w wr ∧ w.heap.size + 2 ≤ wr.heap.size) (fun i _ => o + d - (intOf i).toNat)
  case atStart =>
    refine ⟨0, by simp, Nat.zero_le _, _, (Blk.new _ _ _).alloc _, by simpa using Blk.new (w.alloc _) _ _, Own.nil _ _ _, (((Below.refl _ _).alloc (Nat.le_refl _) _).alloc (by simp) _), by simp⟩
  case round =>
    obtain ⟨k, rfl, hk, v, hB0, hB1, hown, hbel, hsz⟩ := hrel
    have c00 := hB0.cell 0; have c01 := hB0.cell 1; have c10 := hB1.cell 0; have c11 := hB1.cell 1
    have f00 := hB0.free 0; have f01 := hB0.free 1; have f10 := hB1.free 0; have f11 := hB1.free 1
    simp only [List.getElem?_toArray, List.getElem?_cons_zero, List.getElem?_cons_succ] at c00 c01 c10 c11
    have hlen : ((winS l o d).take k).length < 17592186044416 := by simp [winS_length]; omega
    by_cases hlt : k < d
    · by_cases hin : o + k < n
      · obtain ⟨b1, o1, rfl, hc⟩ := hl.at (k := o + k) (by rw [HN.out]; exact hin)
        have e1 : wr.cell? ⟨b1, o1 + (o + k), none⟩ = some (.int .i64 (ix l (o + k))) := by
          have := hc (o + k) (by rw [HN.out]; exact hin)
          rw [hbel.cell (cell_lt this)]; exact this
        clear hc hl
        go_wp2_with (first | (at_builtin; refine app1 rfl _ _ rfl (w.heap.size + 2) _ _ _ _ rfl rfl (hown.alloc _) (cell_new1 _ _ _) hlen (size_alloc_le hsz _) ?_; intro v1 w1 hown1 hgrow1; obtain ⟨a1, n1, m1, rfl⟩ := hown1.form; have hC0 := (hB0.alloc _).grown hgrow1 (hown.ne (Nat.lt_succ_of_lt (Nat.lt_succ_self _))); have hC1 := (hB1.alloc _).grown hgrow1 (hown.ne (Nat.lt_succ_self _)); obtain ⟨d10, d11, g10, g11⟩ := hC1.two) | (go_at_call 30; refine (ref_cell _ _).mono ?_; rintro e w' ⟨rfl, rfl⟩))
        go_roundw
        case rel => exact ⟨k + 1, by go_num, by omega, _, hC0.other (by simp) _, hC1.set 0 _, by rw [winS_take (by simpa using hlt)]; exact (by rw [if_pos (by rw [HN.out]; simpa using hin)]; exact hown1.setCell (by simp) _), ((hbel.alloc (by omega) _).grown hgrow1 (by simp; omega) (fun k hk => by have := hown.row k hk; omega)).setCell (by simp) _, by have := hgrow1.size; simp at this ⊢; omega⟩
        case measure => simp [intOf]; omega
      · have hge : n ≤ o + k := by omega
        clear hin
        go_wp2_with (first | (at_builtin; refine app1 rfl _ _ rfl (w.heap.size + 2) _ _ _ _ rfl rfl (hown.alloc _) (cell_new1 _ _ _) hlen (size_alloc_le hsz _) ?_; intro v1 w1 hown1 hgrow1; obtain ⟨a1, n1, m1, rfl⟩ := hown1.form; have hC0 := (hB0.alloc _).grown hgrow1 (hown.ne (Nat.lt_succ_of_lt (Nat.lt_succ_self _))); have hC1 := (hB1.alloc _).grown hgrow1 (hown.ne (Nat.lt_succ_self _)); obtain ⟨d10, d11, g10, g11⟩ := hC1.two))
        go_roundw
        case rel => exact ⟨k + 1, by go_num, by omega, _, hC0.other (by simp) _, hC1.set 0 _, by rw [winS_take (by simpa using hlt)]; exact (by rw [if_neg (by rw [HN.out]; simpa using hge)]; exact hown1.setCell (by simp) _), ((hbel.alloc (by omega) _).grown hgrow1 (by simp; omega) (fun k hk => by have := hown.row k hk; omega)).setCell (by simp) _, by have := hgrow1.size; simp at this ⊢; omega⟩
        case measure => simp [intOf]; omega
    · obtain rfl : k = d := by omega
      obtain ⟨a1, n1, m1, rfl⟩ := hown.form
      go_wp2
      have D := (hB0.set 0 (.slice a1 n1 m1)).set 1 (.int .i64 (at' - (o : Int)))
      obtain ⟨q0, q1, -, -⟩ := Blk.two D
      rw [List.take_of_length_le (by simp [winS_length])] at hown
      refine bodyPost_ret (v := .agg #[.slice a1 n1 m1, .int .i64 (at' - (o : Int))]) (by simp [results, Try.results32, go_sem, q0, q1]) rfl ?_
      exact ⟨_, rfl, ((hown.setCell (by simp) _).setCell (by simp) _).mono (by omega), (hbel.setCell (by simp) _).setCell (by simp) _⟩

end Go.Proofs.Ythnjaichbejifaa
