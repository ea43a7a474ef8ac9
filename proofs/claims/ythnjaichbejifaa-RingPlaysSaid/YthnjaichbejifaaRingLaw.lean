/- The walk of the law RingPlays. -/
import Derived.Test.YthnjaichbejifaaRing2
import Derived.Test.YthnjaichbejifaaOwnO
namespace Go.Proofs.Ythnjaichbejifaa
open Go.RowKit
set_option linter.unusedVariables false
set_option linter.unusedSimpArgs false

theorem ix_set_ne {l : List Int} {i j : Nat} {x : Int} (h : i ≠ j) : ix (l.set i x) j = ix l j := by
  unfold ix; simp [List.getElem?_set, h]
theorem ix_set_eq {l : List Int} {i : Nat} {x : Int} (h : i < l.length) : ix (l.set i x) i = x := by
  unfold ix; simp [List.getElem?_set, h]

theorem ring_grow {n f s : Nat} {slots : List Int} {x : Int} (hf : f < n) (hs : s < n) (hl : slots.length = n) :
    ringS n f (s + 1) (slots.set (place n f s) x) = ringS n f s slots ++ [x] := by
  apply ix_ext (by simp [ringS_length])
  intro i hi
  rw [ringS_length] at hi
  rw [ringS_ix hi]
  by_cases h : i = s
  · subst h
    rw [ix_set_eq (by have := place_lt hf (show i ≤ n by omega); omega)]
    have := ix_append_right (xs := ringS n f i slots) (ys := [x]) (i := 0)
    rw [Nat.add_zero, ringS_length] at this
    rw [this]; rfl
  · rw [ix_set_ne (by unfold place; split <;> split <;> omega), ix_append_left (by rw [ringS_length]; omega), ringS_ix (by omega)]

theorem ring_turn {n f : Nat} {slots : List Int} {x : Int} (hf : f < n) (hl : slots.length = n) :
    ringS n (place n f 1) n (slots.set f x) = (ringS n f n slots ++ [x]).tail := by
  apply ix_ext (by simp [ringS_length])
  intro i hi
  rw [ringS_length] at hi
  rw [ringS_ix hi]
  have ht : ix (ringS n f n slots ++ [x]).tail i = ix (ringS n f n slots ++ [x]) (i + 1) := by simp [ix]
  rw [ht]
  by_cases h : i + 1 = n
  · have hp : place n (place n f 1) i = f := by unfold place; (repeat' split) <;> omega
    rw [hp, ix_set_eq (by omega)]
    have := ix_append_right (xs := ringS n f n slots) (ys := [x]) (i := 0)
    rw [Nat.add_zero, ringS_length] at this
    rw [h, this]; rfl
  · have hp : place n (place n f 1) i = place n f (i + 1) := by unfold place; (repeat' split) <;> omega
    rw [hp, ix_set_ne (by unfold place; split <;> omega), ix_append_left (by rw [ringS_length]; omega), ringS_ix (by omega)]

theorem ring_first {n f s : Nat} {slots : List Int} {x : Int} (hf : f < n) (hs : 0 < s) : ix (ringS n f s slots ++ [x]) 0 = ix slots f := by
  rw [ix_append_left (by rw [ringS_length]; omega), ringS_ix hs]
  unfold place; rw [if_pos (by omega)]; rfl

theorem OwnO.parts {e : TypeId} {base : Nat} {w : World} {v : Value} {xs : List Int} {n : Nat} (h : OwnO e base w v xs) (hn : xs.length = n) : ∃ a c, v = .slice a n c ∧ Ints w a xs ∧ n ≤ c := by
  obtain ⟨a, m, c, h1, h2, h3, h4⟩ := h.sl
  subst hn; subst h2
  exact ⟨a, c, h1, h3, h4⟩

theorem RingAt.push1 {w w' : World} {p g n f s q : Nat} {slots : List Int} {x : Int} (h : RingAt w p g n f s slots) (hq : w' = ((w.setCell ⟨g, place n f s, none⟩ (.int .i64 x)).setCell ⟨p, 2, none⟩ (.int .i64 ((s + 1 : Nat) : Int))).drewN q) : RingAt w' p g n f (s + 1) (slots.set (place n f s) x) := by
  subst hq
  exact ⟨((h.1.other (a := ⟨g, place n f s, none⟩) h.2.2.2 _).set 2 _).drewN q, ((row_set h.2.1 (place n f s) x).other (a := ⟨p, 2, none⟩) (fun e => h.2.2.2 e.symm) _).drewN q, by simp [h.2.2.1], h.2.2.2⟩
theorem RingAt.push2 {w w' : World} {p g n f f' s q : Nat} {slots : List Int} {x : Int} (h : RingAt w p g n f s slots) (hq : w' = ((w.setCell ⟨g, f, none⟩ (.int .i64 x)).setCell ⟨p, 1, none⟩ (.int .i64 f')).drewN q) : RingAt w' p g n f' s (slots.set f x) := by
  subst hq
  exact ⟨((h.1.other (a := ⟨g, f, none⟩) h.2.2.2 _).set 1 _).drewN q, ((row_set h.2.1 f x).other (a := ⟨p, 1, none⟩) (fun e => h.2.2.2 e.symm) _).drewN q, by simp [h.2.2.1], h.2.2.2⟩

theorem RingAt.grow {w w' : World} {p g n f s base : Nat} {slots : List Int} {v : Value} {o : Obj} (h : RingAt w p g n f s slots) (hg : (w.alloc o).grownBy w' v.ownBlock) (hr : ∀ k, v.ownBlock = some k → base ≤ k) (hp : p < base) (hgb : g < base) : RingAt w' p g n f s slots :=
  ⟨(h.1.alloc o).grown hg (fun e => by have := hr _ e.symm; omega), (h.2.1.alloc o).grown hg (fun e => by have := hr _ e.symm; omega), h.2.2⟩

/-- the loop's state -/
def RP (w : World) (base p g n : Nat) (k : Nat) (v : Value) (wr : World) : Prop :=
  ∃ f s slots, RingAt wr p g n f s slots ∧ (f < n ∨ n = 0) ∧ s ≤ n ∧ OwnO 3 base wr v (ringS n f s slots) ∧ Below w.heap.size w wr ∧ base ≤ wr.heap.size

set_option maxRecDepth 100000 in
set_option maxHeartbeats 4000000 in
theorem ringPlays_mid (most : Int) (n : Nat) (a : Option Addr) (c m : Nat) (l : List Int) (k : Int) (w : World) (h1 : Ints w a l) (hm : l.length = m) (hl : m < 17592186044416) (g1 : 0 < n) (g2 : n ≤ 65536)
    (hN : Calls Try.prog 15 #[.int .i64 n] w (NewPost n w)) :
    Calls Try.prog 4 #[.int .i64 n, .slice a m c, .int .i64 k] w fun e w' => e = .returned (.bool true) ∧ Below w.heap.size w w' := by
  have HM := Lib.hid hm; clear hm
  have HN := Lib.hid hN; clear hN
  have hn65 : n ≤ 65536 := by omega
  go_enter Try.func4, Try.ntmps4
  go_wp2_with fail
  refine HN.out.mono ?_
  rintro e w1 ⟨p, g, rfl, hR, hp, hg, hbel⟩
  have hpl := hR.1.lt; have hgl := hR.2.1.lt
  go_wp2_with fail
  go_loopw [24, 9] (fun i v wr => ∃ j : Nat, i = .int .i64 (j : Int) ∧ j ≤ m ∧ RP w w1.heap.size p g n j v wr) (fun i _ _ => m - (intOf i).toNat)
  case atStart => exact ⟨0, rfl, by omega, 0, 0, _, hR, by omega, by omega, .inl ⟨rfl, rfl⟩, hbel, Nat.le_refl _⟩
  case round =>
    obtain ⟨j, rfl, hj, f, s, slots, hRi, hf, hs, hO, hb, hsz⟩ := hrel
    by_cases hlt : j < m
    · obtain ⟨b1, o1, rfl, hcx⟩ := h1.at (k := j) (by rw [HM.out]; exact hlt)
      have cx := hcx j (by rw [HM.out]; exact hlt)
      have cx1 : wr.cell? ⟨b1, o1 + j, none⟩ = some (.int .i64 (ix l j)) := by rw [hb.cell (cell_lt cx)]; exact cx
      clear hcx cx h1
      have HRL := Lib.hid hRi.2.2.1
      have hsl := ringS_length n f s slots
      have HSL := Lib.hid hsl; clear hsl
      by_cases hsn : s < n
      · go_wp2_with fail
        refine (ring_push1 p n f s g (ix l j) wr slots hRi (by omega) hsn hn65).mono ?_
        rintro e w2 ⟨rfl, q, hq⟩
        have hR2 := hRi.push1 hq
        have hO2 : OwnO 3 w1.heap.size w2 u9 (ringS n f s slots) := by rw [hq]; exact ((hO.setCell (by exact hgl) _).setCell (by exact hpl) _).drewN q
        have hb2 : Below w.heap.size w w2 := by rw [hq]; exact below_drewN ((hb.setCell (by exact hg) _).setCell (by exact hp) _) q
        have hsz2 : w1.heap.size ≤ w2.heap.size := by rw [hq]; show _ ≤ (World.setCell _ _ _).heap.size; rw [size_setCell, size_setCell]; exact hsz
        have hgr := ring_grow (x := ix l j) (show f < n by omega) hsn HRL.out
        have HGR := Lib.hid hgr; clear hgr hq
        go_wp2_with (at_builtin; refine app1o rfl _ _ rfl w1.heap.size u9 _ _ _ rfl rfl (hO2.alloc _) (cell_new1 _ _ _) (by rw [HSL.out]; omega) (size_alloc_le hsz2 _) ?_; intro v3 w3 hO3 hgrow3; obtain ⟨a3, c3, rfl, hI3, hc3⟩ := hO3.parts (n := s + 1) (by simp [HSL.out]); have hR3 := hR2.grow hgrow3 hO2.row hpl hgl)
        refine (ring_len p n f (s + 1) g w3 _ hR3).mono ?_
        rintro e w' ⟨rfl, rfl⟩
        go_wp2
        go_roundw
        case rel => exact ⟨j + 1, by go_num, by omega, f, s + 1, _, hR3, by omega, by omega, by rw [HGR.out]; exact hO3, (hb2.alloc hb2.size _).grown hgrow3 (by have := hb2.size; simp; omega) (fun k hk => by have := hO2.row k hk; have := hbel.size; omega), by have := hgrow3.size; simp at this; omega⟩
        case measure => simp [intOf]; omega
      · obtain rfl : s = n := by omega
        go_wp2_with fail
        refine (ring_push2 p s f g (ix l j) wr slots hRi (by omega) hn65).mono ?_
        rintro e w2 ⟨rfl, q, hq⟩
        have hR2 := hRi.push2 hq
        have hO2 : OwnO 3 w1.heap.size w2 u9 (ringS s f s slots) := by rw [hq]; exact ((hO.setCell (by exact hgl) _).setCell (by exact hpl) _).drewN q
        have hb2 : Below w.heap.size w w2 := by rw [hq]; exact below_drewN ((hb.setCell (by exact hg) _).setCell (by exact hp) _) q
        have hsz2 : w1.heap.size ≤ w2.heap.size := by rw [hq]; show _ ≤ (World.setCell _ _ _).heap.size; rw [size_setCell, size_setCell]; exact hsz
        have hgr := ring_turn (x := ix l j) (show f < s by omega) HRL.out
        have hfi := ring_first (slots := slots) (x := ix l j) (show f < s by omega) (show 0 < s by omega)
        have HGR := Lib.hid hgr; have HFI := Lib.hid hfi; clear hgr hq hfi
        go_wp2_with (at_builtin; refine app1o rfl _ _ rfl w1.heap.size u9 _ _ _ rfl rfl (hO2.alloc _) (cell_new1 _ _ _) (by rw [HSL.out]; omega) (size_alloc_le hsz2 _) ?_; intro v3 w3 hO3 hgrow3; obtain ⟨a3, c3, rfl, hI3, hc3⟩ := hO3.parts (n := s + 1) (by simp [HSL.out]); have hR3 := hR2.grow hgrow3 hO2.row hpl hgl; obtain ⟨b3, o3, rfl, hcz⟩ := hI3.at (k := 0) (by simp); have cz := hcz 0 (by simp); rw [Nat.add_zero, HFI.out] at cz; clear hcz)
        have hT := hO3.tail (by omega)
        rw [if_neg (by omega), Nat.add_sub_cancel] at hT
        refine (ring_len p s (place s f 1) s g w3 _ hR3).mono ?_
        rintro e w' ⟨rfl, rfl⟩
        go_wp2
        go_roundw
        case rel => exact ⟨j + 1, by go_num, by omega, place s f 1, s, _, hR3, by have := place_lt (show f < s by omega) (show 1 ≤ s by omega); omega, by omega, by rw [HGR.out]; exact hT, (hb2.alloc hb2.size _).grown hgrow3 (by have := hb2.size; simp; omega) (fun k hk => by have := hO2.row k hk; have := hbel.size; omega), by have := hgrow3.size; simp at this; omega⟩
        case measure => simp [intOf]; omega
    · obtain ⟨aw, cw, rfl, hIw, hcw⟩ := hO.parts (ringS_length n f s slots)
      have hRL := Lib.hid hRi.2.2.1
      clear h1
      by_cases hin : 0 ≤ k ∧ k < s
      · obtain ⟨hk0, hk1⟩ := hin
        obtain ⟨kk, rfl⟩ := Int.eq_ofNat_of_zero_le hk0
        go_wp2_with fail
        refine (ring_at p n f s g kk wr slots hRi (by omega) hs hn65 (by omega)).mono ?_
        rintro e w2 ⟨rfl, q, hq⟩
        have hR2 : RingAt w2 p g n f s slots := by rw [hq]; exact hRi.drewN q
        have hb2 : Below w.heap.size w w2 := by rw [hq]; exact below_drewN hb q
        have hI2 : Ints w2 aw (ringS n f s slots) := by rw [hq]; exact hIw.drewN q
        clear hq
        go_wp2_with fail
        refine (ring_list p n f s g w2 slots hR2 (by omega) hs hn65).mono ?_
        rintro e w3 ⟨v3, rfl, o3, hb3⟩
        obtain ⟨a3, n3, c3, rfl⟩ := o3.form
        have hI3 := hI2.below hb3
        have hbw := below_then hb2 hb2.size hb3
        go_wp2_with fail
        refine (slices_same a3 aw n3 s c3 cw (ringS n f s slots) w3 o3.get.2.1 hI3 o3.get.1 (ringS_length _ _ _ _) (by rw [← o3.get.1, ringS_length]; omega)).mono ?_
        rintro e w4 ⟨rfl, q4, hq4⟩
        have hb4 : Below w.heap.size w w4 := by rw [hq4]; exact below_drewN hbw q4
        obtain ⟨bw, ow, rfl, hcc⟩ := hI3.at (k := kk) (by rw [ringS_length]; omega)
        have cc : w4.cell? ⟨bw, ow + kk, none⟩ = some (.int .i64 (ix slots (place n f kk))) := by rw [hq4]; have := hcc kk (by rw [ringS_length]; omega); rw [ringS_ix (by omega)] at this; exact this
        clear hq4 hcc
        go_wp2
        go_ret
        exact ⟨rfl, hb4⟩
      · go_wp2_with fail
        refine (ring_at_no p n f s g k wr slots hRi (by omega)).mono ?_
        rintro e w2 ⟨rfl, rfl⟩
        have hcs : k < 0 ∨ 0 ≤ k ∧ (s : Int) ≤ k := by omega
        clear hin
        rcases hcs with hk | ⟨hk, hk2⟩
        all_goals
          go_wp2_with fail
          refine (ring_list p n f s g wr slots hRi (by omega) hs hn65).mono ?_
          rintro e w3 ⟨v3, rfl, o3, hb3⟩
          obtain ⟨a3, n3, c3, rfl⟩ := o3.form
          have hI3 := hIw.below hb3
          have hbw := below_then hb hb.size hb3
          go_wp2_with fail
          refine (slices_same a3 aw n3 s c3 cw (ringS n f s slots) w3 o3.get.2.1 hI3 o3.get.1 (ringS_length _ _ _ _) (by rw [← o3.get.1, ringS_length]; omega)).mono ?_
          rintro e w4 ⟨rfl, q4, rfl⟩
          go_wp2
          go_ret
          exact ⟨rfl, below_drewN hbw q4⟩

set_option maxRecDepth 100000 in
set_option maxHeartbeats 4000000 in
theorem ringPlays_big (most : Int) (n : Nat) (a : Option Addr) (c m : Nat) (l : List Int) (k : Int) (w : World) (h1 : Ints w a l) (hm : l.length = m) (hl : m < 17592186044416) (g0 : 65536 < most) (g1 : 65536 ≤ n) (g2 : n ≤ 65536)
    (hN : Calls Try.prog 15 #[.int .i64 most] w (NewPost n w)) :
    Calls Try.prog 4 #[.int .i64 most, .slice a m c, .int .i64 k] w fun e w' => e = .returned (.bool true) ∧ Below w.heap.size w w' := by
  have HM := Lib.hid hm; clear hm
  have HN := Lib.hid hN; clear hN
  have hn65 : n ≤ 65536 := by omega
  go_enter Try.func4, Try.ntmps4
  go_wp2_with fail
  refine HN.out.mono ?_
  rintro e w1 ⟨p, g, rfl, hR, hp, hg, hbel⟩
  have hpl := hR.1.lt; have hgl := hR.2.1.lt
  go_wp2_with fail
  obtain ⟨R, hRR⟩ : ∃ R : Int, R = 65536 := ⟨_, rfl⟩
  rw [← hRR]
  have g3 : R ≤ n := by omega
  have g4 : (n : Int) ≤ R := by omega
  have g5 : 0 < n := by omega
  clear hRR g1 g2
  go_loopw [24, 9] (fun i v wr => ∃ j : Nat, i = .int .i64 (j : Int) ∧ j ≤ m ∧ RP w w1.heap.size p g n j v wr) (fun i _ _ => m - (intOf i).toNat)
  case atStart => exact ⟨0, rfl, by omega, 0, 0, _, hR, by omega, by omega, .inl ⟨rfl, rfl⟩, hbel, Nat.le_refl _⟩
  case round =>
    obtain ⟨j, rfl, hj, f, s, slots, hRi, hf, hs, hO, hb, hsz⟩ := hrel
    by_cases hlt : j < m
    · obtain ⟨b1, o1, rfl, hcx⟩ := h1.at (k := j) (by rw [HM.out]; exact hlt)
      have cx := hcx j (by rw [HM.out]; exact hlt)
      have cx1 : wr.cell? ⟨b1, o1 + j, none⟩ = some (.int .i64 (ix l j)) := by rw [hb.cell (cell_lt cx)]; exact cx
      clear hcx cx h1
      have HRL := Lib.hid hRi.2.2.1
      have hsl := ringS_length n f s slots
      have HSL := Lib.hid hsl; clear hsl
      by_cases hsn : s < n
      · go_wp2_with fail
        refine (ring_push1 p n f s g (ix l j) wr slots hRi (by omega) hsn hn65).mono ?_
        rintro e w2 ⟨rfl, q, hq⟩
        have hR2 := hRi.push1 hq
        have hO2 : OwnO 3 w1.heap.size w2 u9 (ringS n f s slots) := by rw [hq]; exact ((hO.setCell (by exact hgl) _).setCell (by exact hpl) _).drewN q
        have hb2 : Below w.heap.size w w2 := by rw [hq]; exact below_drewN ((hb.setCell (by exact hg) _).setCell (by exact hp) _) q
        have hsz2 : w1.heap.size ≤ w2.heap.size := by rw [hq]; show _ ≤ (World.setCell _ _ _).heap.size; rw [size_setCell, size_setCell]; exact hsz
        have hgr := ring_grow (x := ix l j) (show f < n by omega) hsn HRL.out
        have HGR := Lib.hid hgr; clear hgr hq
        go_wp2_with (at_builtin; refine app1o rfl _ _ rfl w1.heap.size u9 _ _ _ rfl rfl (hO2.alloc _) (cell_new1 _ _ _) (by rw [HSL.out]; omega) (size_alloc_le hsz2 _) ?_; intro v3 w3 hO3 hgrow3; obtain ⟨a3, c3, rfl, hI3, hc3⟩ := hO3.parts (n := s + 1) (by simp [HSL.out]); have hR3 := hR2.grow hgrow3 hO2.row hpl hgl)
        refine (ring_len p n f (s + 1) g w3 _ hR3).mono ?_
        rintro e w' ⟨rfl, rfl⟩
        go_wp2
        go_roundw
        case rel => exact ⟨j + 1, by go_num, by omega, f, s + 1, _, hR3, by omega, by omega, by rw [HGR.out]; exact hO3, (hb2.alloc hb2.size _).grown hgrow3 (by have := hb2.size; simp; omega) (fun k hk => by have := hO2.row k hk; have := hbel.size; omega), by have := hgrow3.size; simp at this; omega⟩
        case measure => simp [intOf]; omega
      · obtain rfl : s = n := by omega
        go_wp2_with fail
        refine (ring_push2 p s f g (ix l j) wr slots hRi (by omega) hn65).mono ?_
        rintro e w2 ⟨rfl, q, hq⟩
        have hR2 := hRi.push2 hq
        have hO2 : OwnO 3 w1.heap.size w2 u9 (ringS s f s slots) := by rw [hq]; exact ((hO.setCell (by exact hgl) _).setCell (by exact hpl) _).drewN q
        have hb2 : Below w.heap.size w w2 := by rw [hq]; exact below_drewN ((hb.setCell (by exact hg) _).setCell (by exact hp) _) q
        have hsz2 : w1.heap.size ≤ w2.heap.size := by rw [hq]; show _ ≤ (World.setCell _ _ _).heap.size; rw [size_setCell, size_setCell]; exact hsz
        have hgr := ring_turn (x := ix l j) (show f < s by omega) HRL.out
        have hfi := ring_first (slots := slots) (x := ix l j) (show f < s by omega) (show 0 < s by omega)
        have HGR := Lib.hid hgr; have HFI := Lib.hid hfi; clear hgr hq hfi
        go_wp2_with (at_builtin; refine app1o rfl _ _ rfl w1.heap.size u9 _ _ _ rfl rfl (hO2.alloc _) (cell_new1 _ _ _) (by rw [HSL.out]; omega) (size_alloc_le hsz2 _) ?_; intro v3 w3 hO3 hgrow3; obtain ⟨a3, c3, rfl, hI3, hc3⟩ := hO3.parts (n := s + 1) (by simp [HSL.out]); have hR3 := hR2.grow hgrow3 hO2.row hpl hgl; obtain ⟨b3, o3, rfl, hcz⟩ := hI3.at (k := 0) (by simp); have cz := hcz 0 (by simp); rw [Nat.add_zero, HFI.out] at cz; clear hcz)
        have hT := hO3.tail (by omega)
        rw [if_neg (by omega), Nat.add_sub_cancel] at hT
        refine (ring_len p s (place s f 1) s g w3 _ hR3).mono ?_
        rintro e w' ⟨rfl, rfl⟩
        go_wp2
        go_roundw
        case rel => exact ⟨j + 1, by go_num, by omega, place s f 1, s, _, hR3, by have := place_lt (show f < s by omega) (show 1 ≤ s by omega); omega, by omega, by rw [HGR.out]; exact hT, (hb2.alloc hb2.size _).grown hgrow3 (by have := hb2.size; simp; omega) (fun k hk => by have := hO2.row k hk; have := hbel.size; omega), by have := hgrow3.size; simp at this; omega⟩
        case measure => simp [intOf]; omega
    · obtain ⟨aw, cw, rfl, hIw, hcw⟩ := hO.parts (ringS_length n f s slots)
      have hRL := Lib.hid hRi.2.2.1
      clear h1
      by_cases hin : 0 ≤ k ∧ k < s
      · obtain ⟨hk0, hk1⟩ := hin
        obtain ⟨kk, rfl⟩ := Int.eq_ofNat_of_zero_le hk0
        go_wp2_with fail
        refine (ring_at p n f s g kk wr slots hRi (by omega) hs hn65 (by omega)).mono ?_
        rintro e w2 ⟨rfl, q, hq⟩
        have hR2 : RingAt w2 p g n f s slots := by rw [hq]; exact hRi.drewN q
        have hb2 : Below w.heap.size w w2 := by rw [hq]; exact below_drewN hb q
        have hI2 : Ints w2 aw (ringS n f s slots) := by rw [hq]; exact hIw.drewN q
        clear hq
        go_wp2_with fail
        refine (ring_list p n f s g w2 slots hR2 (by omega) hs hn65).mono ?_
        rintro e w3 ⟨v3, rfl, o3, hb3⟩
        obtain ⟨a3, n3, c3, rfl⟩ := o3.form
        have hI3 := hI2.below hb3
        have hbw := below_then hb2 hb2.size hb3
        go_wp2_with fail
        refine (slices_same a3 aw n3 s c3 cw (ringS n f s slots) w3 o3.get.2.1 hI3 o3.get.1 (ringS_length _ _ _ _) (by rw [← o3.get.1, ringS_length]; omega)).mono ?_
        rintro e w4 ⟨rfl, q4, hq4⟩
        have hb4 : Below w.heap.size w w4 := by rw [hq4]; exact below_drewN hbw q4
        obtain ⟨bw, ow, rfl, hcc⟩ := hI3.at (k := kk) (by rw [ringS_length]; omega)
        have cc : w4.cell? ⟨bw, ow + kk, none⟩ = some (.int .i64 (ix slots (place n f kk))) := by rw [hq4]; have := hcc kk (by rw [ringS_length]; omega); rw [ringS_ix (by omega)] at this; exact this
        clear hq4 hcc
        go_wp2
        go_ret
        exact ⟨rfl, hb4⟩
      · go_wp2_with fail
        refine (ring_at_no p n f s g k wr slots hRi (by omega)).mono ?_
        rintro e w2 ⟨rfl, rfl⟩
        have hcs : k < 0 ∨ 0 ≤ k ∧ (s : Int) ≤ k := by omega
        clear hin
        rcases hcs with hk | ⟨hk, hk2⟩
        all_goals
          go_wp2_with fail
          refine (ring_list p n f s g wr slots hRi (by omega) hs hn65).mono ?_
          rintro e w3 ⟨v3, rfl, o3, hb3⟩
          obtain ⟨a3, n3, c3, rfl⟩ := o3.form
          have hI3 := hIw.below hb3
          have hbw := below_then hb hb.size hb3
          go_wp2_with fail
          refine (slices_same a3 aw n3 s c3 cw (ringS n f s slots) w3 o3.get.2.1 hI3 o3.get.1 (ringS_length _ _ _ _) (by rw [← o3.get.1, ringS_length]; omega)).mono ?_
          rintro e w4 ⟨rfl, q4, rfl⟩
          go_wp2
          go_ret
          exact ⟨rfl, below_drewN hbw q4⟩

set_option maxRecDepth 100000 in
set_option maxHeartbeats 4000000 in
theorem ringPlays_zero (most : Int) (n : Nat) (a : Option Addr) (c m : Nat) (l : List Int) (k : Int) (w : World) (h1 : Ints w a l) (hm : l.length = m) (hl : m < 17592186044416) (g0 : most < 0) (g1 : n ≤ 0)
    (hN : Calls Try.prog 15 #[.int .i64 most] w (NewPost n w)) :
    Calls Try.prog 4 #[.int .i64 most, .slice a m c, .int .i64 k] w fun e w' => e = .returned (.bool true) ∧ Below w.heap.size w w' := by
  have HM := Lib.hid hm; clear hm
  have HN := Lib.hid hN; clear hN
  have hn65 : n ≤ 65536 := by omega
  go_enter Try.func4, Try.ntmps4
  go_wp2_with fail
  refine HN.out.mono ?_
  rintro e w1 ⟨p, g, rfl, hR, hp, hg, hbel⟩
  have hpl := hR.1.lt; have hgl := hR.2.1.lt
  go_wp2_with fail
  go_loopw [24, 9] (fun i v wr => ∃ j : Nat, i = .int .i64 (j : Int) ∧ j ≤ m ∧ RP w w1.heap.size p g n j v wr) (fun i _ _ => m - (intOf i).toNat)
  case atStart => exact ⟨0, rfl, by omega, 0, 0, _, hR, by omega, by omega, .inl ⟨rfl, rfl⟩, hbel, Nat.le_refl _⟩
  case round =>
    obtain ⟨j, rfl, hj, f, s, slots, hRi, hf, hs, hO, hb, hsz⟩ := hrel
    by_cases hlt : j < m
    · obtain ⟨b1, o1, rfl, hcx⟩ := h1.at (k := j) (by rw [HM.out]; exact hlt)
      have cx := hcx j (by rw [HM.out]; exact hlt)
      have cx1 : wr.cell? ⟨b1, o1 + j, none⟩ = some (.int .i64 (ix l j)) := by rw [hb.cell (cell_lt cx)]; exact cx
      clear hcx cx h1
      have HRL := Lib.hid hRi.2.2.1
      have hsl := ringS_length n f s slots
      have HSL := Lib.hid hsl; clear hsl
      obtain rfl : n = 0 := by omega
      obtain rfl : s = 0 := by omega
      go_wp2_with fail
      refine (ring_push0 p f 0 g (ix l j) wr slots hRi).mono ?_
      rintro e w' ⟨rfl, rfl⟩
      go_wp2_with (at_builtin; refine app1o rfl _ _ rfl w1.heap.size u9 _ _ _ rfl rfl (hO.alloc _) (cell_new1 _ _ _) (by rw [HSL.out]; omega) (size_alloc_le hsz _) ?_; intro v3 w3 hO3 hgrow3; obtain ⟨a3, c3, rfl, hI3, hc3⟩ := hO3.parts (n := 1) (by simp [HSL.out]); have hR3 := hRi.grow hgrow3 hO.row hpl hgl; obtain ⟨b3, o3, rfl, hcz⟩ := hI3.at (k := 0) (by simp); have cz := hcz 0 (by simp); have hz : ix (ringS 0 f 0 slots ++ [ix l j]) 0 = ix l j := rfl; rw [Nat.add_zero, hz] at cz; clear hcz hz)
      all_goals
        have hT := hO3.tail (by omega)
        refine (ring_len p 0 f 0 g w3 _ hR3).mono ?_
        rintro e w' ⟨rfl, rfl⟩
        go_wp2
        go_roundw
        case rel => exact ⟨j + 1, by go_num, by omega, f, 0, slots, hR3, .inr rfl, by omega, by first | (rw [if_neg (by omega)] at hT; exact hT) | (obtain rfl : c3 = 1 := (by omega); rw [if_pos rfl] at hT; exact hT), (hb.alloc hb.size _).grown hgrow3 (by have := hb.size; simp; omega) (fun k hk => by have := hO.row k hk; have := hbel.size; omega), by have := hgrow3.size; simp at this; omega⟩
        case measure => simp [intOf]; omega
    · obtain ⟨aw, cw, rfl, hIw, hcw⟩ := hO.parts (ringS_length n f s slots)
      have hRL := Lib.hid hRi.2.2.1
      clear h1
      by_cases hin : 0 ≤ k ∧ k < s
      · obtain ⟨hk0, hk1⟩ := hin
        obtain ⟨kk, rfl⟩ := Int.eq_ofNat_of_zero_le hk0
        go_wp2_with fail
        refine (ring_at p n f s g kk wr slots hRi (by omega) hs hn65 (by omega)).mono ?_
        rintro e w2 ⟨rfl, q, hq⟩
        have hR2 : RingAt w2 p g n f s slots := by rw [hq]; exact hRi.drewN q
        have hb2 : Below w.heap.size w w2 := by rw [hq]; exact below_drewN hb q
        have hI2 : Ints w2 aw (ringS n f s slots) := by rw [hq]; exact hIw.drewN q
        clear hq
        go_wp2_with fail
        refine (ring_list p n f s g w2 slots hR2 (by omega) hs hn65).mono ?_
        rintro e w3 ⟨v3, rfl, o3, hb3⟩
        obtain ⟨a3, n3, c3, rfl⟩ := o3.form
        have hI3 := hI2.below hb3
        have hbw := below_then hb2 hb2.size hb3
        go_wp2_with fail
        refine (slices_same a3 aw n3 s c3 cw (ringS n f s slots) w3 o3.get.2.1 hI3 o3.get.1 (ringS_length _ _ _ _) (by rw [← o3.get.1, ringS_length]; omega)).mono ?_
        rintro e w4 ⟨rfl, q4, hq4⟩
        have hb4 : Below w.heap.size w w4 := by rw [hq4]; exact below_drewN hbw q4
        obtain ⟨bw, ow, rfl, hcc⟩ := hI3.at (k := kk) (by rw [ringS_length]; omega)
        have cc : w4.cell? ⟨bw, ow + kk, none⟩ = some (.int .i64 (ix slots (place n f kk))) := by rw [hq4]; have := hcc kk (by rw [ringS_length]; omega); rw [ringS_ix (by omega)] at this; exact this
        clear hq4 hcc
        go_wp2
        go_ret
        exact ⟨rfl, hb4⟩
      · go_wp2_with fail
        refine (ring_at_no p n f s g k wr slots hRi (by omega)).mono ?_
        rintro e w2 ⟨rfl, rfl⟩
        have hcs : k < 0 ∨ 0 ≤ k ∧ (s : Int) ≤ k := by omega
        clear hin
        rcases hcs with hk | ⟨hk, hk2⟩
        all_goals
          go_wp2_with fail
          refine (ring_list p n f s g wr slots hRi (by omega) hs hn65).mono ?_
          rintro e w3 ⟨v3, rfl, o3, hb3⟩
          obtain ⟨a3, n3, c3, rfl⟩ := o3.form
          have hI3 := hIw.below hb3
          have hbw := below_then hb hb.size hb3
          go_wp2_with fail
          refine (slices_same a3 aw n3 s c3 cw (ringS n f s slots) w3 o3.get.2.1 hI3 o3.get.1 (ringS_length _ _ _ _) (by rw [← o3.get.1, ringS_length]; omega)).mono ?_
          rintro e w4 ⟨rfl, q4, rfl⟩
          go_wp2
          go_ret
          exact ⟨rfl, below_drewN hbw q4⟩

set_option maxRecDepth 100000 in
set_option maxHeartbeats 4000000 in
theorem ringPlays_nought (n : Nat) (a : Option Addr) (c m : Nat) (l : List Int) (k : Int) (w : World) (h1 : Ints w a l) (hm : l.length = m) (hl : m < 17592186044416) (g1 : n ≤ 0)
    (hN : Calls Try.prog 15 #[.int .i64 0] w (NewPost n w)) :
    Calls Try.prog 4 #[.int .i64 0, .slice a m c, .int .i64 k] w fun e w' => e = .returned (.bool true) ∧ Below w.heap.size w w' := by
  have HM := Lib.hid hm; clear hm
  have HN := Lib.hid hN; clear hN
  have hn65 : n ≤ 65536 := by omega
  go_enter Try.func4, Try.ntmps4
  go_wp2_with fail
  refine HN.out.mono ?_
  rintro e w1 ⟨p, g, rfl, hR, hp, hg, hbel⟩
  have hpl := hR.1.lt; have hgl := hR.2.1.lt
  go_wp2_with fail
  go_loopw [24, 9] (fun i v wr => ∃ j : Nat, i = .int .i64 (j : Int) ∧ j ≤ m ∧ RP w w1.heap.size p g n j v wr) (fun i _ _ => m - (intOf i).toNat)
  case atStart => exact ⟨0, rfl, by omega, 0, 0, _, hR, by omega, by omega, .inl ⟨rfl, rfl⟩, hbel, Nat.le_refl _⟩
  case round =>
    obtain ⟨j, rfl, hj, f, s, slots, hRi, hf, hs, hO, hb, hsz⟩ := hrel
    by_cases hlt : j < m
    · obtain ⟨b1, o1, rfl, hcx⟩ := h1.at (k := j) (by rw [HM.out]; exact hlt)
      have cx := hcx j (by rw [HM.out]; exact hlt)
      have cx1 : wr.cell? ⟨b1, o1 + j, none⟩ = some (.int .i64 (ix l j)) := by rw [hb.cell (cell_lt cx)]; exact cx
      clear hcx cx h1
      have HRL := Lib.hid hRi.2.2.1
      have hsl := ringS_length n f s slots
      have HSL := Lib.hid hsl; clear hsl
      obtain rfl : n = 0 := by omega
      obtain rfl : s = 0 := by omega
      go_wp2_with fail
      refine (ring_push0 p f 0 g (ix l j) wr slots hRi).mono ?_
      rintro e w' ⟨rfl, rfl⟩
      go_wp2_with (at_builtin; refine app1o rfl _ _ rfl w1.heap.size u9 _ _ _ rfl rfl (hO.alloc _) (cell_new1 _ _ _) (by rw [HSL.out]; omega) (size_alloc_le hsz _) ?_; intro v3 w3 hO3 hgrow3; obtain ⟨a3, c3, rfl, hI3, hc3⟩ := hO3.parts (n := 1) (by simp [HSL.out]); have hR3 := hRi.grow hgrow3 hO.row hpl hgl; obtain ⟨b3, o3, rfl, hcz⟩ := hI3.at (k := 0) (by simp); have cz := hcz 0 (by simp); have hz : ix (ringS 0 f 0 slots ++ [ix l j]) 0 = ix l j := rfl; rw [Nat.add_zero, hz] at cz; clear hcz hz)
      all_goals
        have hT := hO3.tail (by omega)
        refine (ring_len p 0 f 0 g w3 _ hR3).mono ?_
        rintro e w' ⟨rfl, rfl⟩
        go_wp2
        go_roundw
        case rel => exact ⟨j + 1, by go_num, by omega, f, 0, slots, hR3, .inr rfl, by omega, by first | (rw [if_neg (by omega)] at hT; exact hT) | (obtain rfl : c3 = 1 := (by omega); rw [if_pos rfl] at hT; exact hT), (hb.alloc hb.size _).grown hgrow3 (by have := hb.size; simp; omega) (fun k hk => by have := hO.row k hk; have := hbel.size; omega), by have := hgrow3.size; simp at this; omega⟩
        case measure => simp [intOf]; omega
    · obtain ⟨aw, cw, rfl, hIw, hcw⟩ := hO.parts (ringS_length n f s slots)
      have hRL := Lib.hid hRi.2.2.1
      clear h1
      by_cases hin : 0 ≤ k ∧ k < s
      · obtain ⟨hk0, hk1⟩ := hin
        obtain ⟨kk, rfl⟩ := Int.eq_ofNat_of_zero_le hk0
        go_wp2_with fail
        refine (ring_at p n f s g kk wr slots hRi (by omega) hs hn65 (by omega)).mono ?_
        rintro e w2 ⟨rfl, q, hq⟩
        have hR2 : RingAt w2 p g n f s slots := by rw [hq]; exact hRi.drewN q
        have hb2 : Below w.heap.size w w2 := by rw [hq]; exact below_drewN hb q
        have hI2 : Ints w2 aw (ringS n f s slots) := by rw [hq]; exact hIw.drewN q
        clear hq
        go_wp2_with fail
        refine (ring_list p n f s g w2 slots hR2 (by omega) hs hn65).mono ?_
        rintro e w3 ⟨v3, rfl, o3, hb3⟩
        obtain ⟨a3, n3, c3, rfl⟩ := o3.form
        have hI3 := hI2.below hb3
        have hbw := below_then hb2 hb2.size hb3
        go_wp2_with fail
        refine (slices_same a3 aw n3 s c3 cw (ringS n f s slots) w3 o3.get.2.1 hI3 o3.get.1 (ringS_length _ _ _ _) (by rw [← o3.get.1, ringS_length]; omega)).mono ?_
        rintro e w4 ⟨rfl, q4, hq4⟩
        have hb4 : Below w.heap.size w w4 := by rw [hq4]; exact below_drewN hbw q4
        obtain ⟨bw, ow, rfl, hcc⟩ := hI3.at (k := kk) (by rw [ringS_length]; omega)
        have cc : w4.cell? ⟨bw, ow + kk, none⟩ = some (.int .i64 (ix slots (place n f kk))) := by rw [hq4]; have := hcc kk (by rw [ringS_length]; omega); rw [ringS_ix (by omega)] at this; exact this
        clear hq4 hcc
        go_wp2
        go_ret
        exact ⟨rfl, hb4⟩
      · go_wp2_with fail
        refine (ring_at_no p n f s g k wr slots hRi (by omega)).mono ?_
        rintro e w2 ⟨rfl, rfl⟩
        have hcs : k < 0 ∨ 0 ≤ k ∧ (s : Int) ≤ k := by omega
        clear hin
        rcases hcs with hk | ⟨hk, hk2⟩
        all_goals
          go_wp2_with fail
          refine (ring_list p n f s g wr slots hRi (by omega) hs hn65).mono ?_
          rintro e w3 ⟨v3, rfl, o3, hb3⟩
          obtain ⟨a3, n3, c3, rfl⟩ := o3.form
          have hI3 := hIw.below hb3
          have hbw := below_then hb hb.size hb3
          go_wp2_with fail
          refine (slices_same a3 aw n3 s c3 cw (ringS n f s slots) w3 o3.get.2.1 hI3 o3.get.1 (ringS_length _ _ _ _) (by rw [← o3.get.1, ringS_length]; omega)).mono ?_
          rintro e w4 ⟨rfl, q4, rfl⟩
          go_wp2
          go_ret
          exact ⟨rfl, below_drewN hbw q4⟩

theorem ringPlays_walk (most : Int) (a : Option Addr) (c m : Nat) (l : List Int) (k : Int) (w : World) (h1 : Ints w a l) (hm : l.length = m) (hl : m < 17592186044416) :
    Calls Try.prog 4 #[.int .i64 most, .slice a m c, .int .i64 k] w fun e w' => e = .returned (.bool true) ∧ Below w.heap.size w w' := by
  have hN := ring_new most w
  rcases Int.lt_trichotomy most 0 with h | h | h
  · rw [show roomS most = 0 from by unfold roomS; omega] at hN
    exact ringPlays_zero most 0 a c m l k w h1 hm hl h (Nat.le_refl _) hN
  · subst h
    exact ringPlays_nought 0 a c m l k w h1 hm hl (Nat.le_refl _) hN
  · by_cases h2 : most ≤ 65536
    · obtain ⟨n, rfl⟩ := Int.eq_ofNat_of_zero_le (show 0 ≤ most by omega)
      rw [show roomS (n : Int) = n from by unfold roomS; omega] at hN
      exact ringPlays_mid n n a c m l k w h1 hm hl (by omega) (by omega) hN
    · rw [show roomS most = 65536 from by unfold roomS; omega] at hN
      exact ringPlays_big most 65536 a c m l k w h1 hm hl (by omega) (by omega) (by omega) hN

end Go.Proofs.Ythnjaichbejifaa
