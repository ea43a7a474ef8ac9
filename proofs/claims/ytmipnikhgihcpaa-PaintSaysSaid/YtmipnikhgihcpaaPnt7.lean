/- Contract of fairref.Paint for right rows of one width. -/
import Derived.Test.YtmipnikhgihcpaaPnt6
import Derived.Deep.CutBlock
namespace Go.Proofs.Ytmipnikhgihcpaa
open Go.RowKit
set_option linter.unusedVariables false
set_option linter.unusedSimpArgs false

theorem Own.grownNe {e : TypeId} {base : Nat} {w w' : World} {v : Value} {xs : List Int} {row : Option Nat} (h : Own e base w v xs) (hg : w.grownBy w' row) (hr : ∀ k, v.ownBlock = some k → row ≠ some k) : Own e base w' v xs := by
  refine ⟨h.1, ?_⟩
  rcases h.2 with h0 | ⟨g, cap, cur, hv, hb, hgc, hrest⟩
  · exact .inl h0
  · refine .inr ⟨g, cap, cur, hv, hb, ?_, hrest⟩
    have hne : some g ≠ row := fun e => hr g (by rw [hv]; rfl) e.symm
    rw [hg.block g (Array.getElem?_eq_some_iff.1 hgc).1 hne]; exact hgc
theorem placesP_lt (P : Nat → Bool) (n : Nat) : ∀ i j, i < j → j < (placesP P n).length → ix (placesP P n) i < ix (placesP P n) j := by
  induction n with
  | zero => intro i j h1 h2; simp [placesP] at h2
  | succ n ih =>
    intro i j h1 h2
    by_cases hp : P n = true
    · have e : placesP P (n + 1) = placesP P n ++ [(n : Int)] := by rw [placesP, if_pos hp]
      rw [e] at h2 ⊢
      rw [List.length_append, List.length_singleton] at h2
      rcases Nat.lt_or_ge j (placesP P n).length with hj | hj
      · rw [ix_append_left (by omega), ix_append_left hj]; exact ih i j h1 hj
      · have hj2 : j = (placesP P n).length + 0 := by omega
        rw [ix_append_left (by omega), hj2, ix_append_right]
        obtain ⟨q, hq, hq2, _⟩ := (placesP_mem P n _).1 (ix_mem (show i < (placesP P n).length by omega))
        rw [hq]; simp [ix]; omega
    · have e : placesP P (n + 1) = placesP P n := by rw [placesP, if_neg hp]
      rw [e] at h2 ⊢
      exact ih i j h1 h2
/-- the places below full and from full on, among the first k -/
def headU (U : List Int) (full k : Nat) : List Int := (U.take k).filter (fun z => decide (z < (full : Int)))
def tailU (U : List Int) (full k : Nat) : List Int := (U.take k).filter (fun z => !decide (z < (full : Int)))
theorem headU_lt {U : List Int} {full k : Nat} (h : k < U.length) (hz : ix U k < (full : Int)) : headU U full (k + 1) = headU U full k ++ [ix U k] ∧ tailU U full (k + 1) = tailU U full k := by
  unfold headU tailU
  rw [filter_take_succ _ h, filter_take_succ _ h]
  simp [hz]
theorem headU_ge {U : List Int} {full k : Nat} (h : k < U.length) (hz : ¬ ix U k < (full : Int)) : headU U full (k + 1) = headU U full k ∧ tailU U full (k + 1) = tailU U full k ++ [ix U k] := by
  unfold headU tailU
  rw [filter_take_succ _ h, filter_take_succ _ h]
  simp [hz]
theorem headU_len (U : List Int) (full k : Nat) : (headU U full k).length ≤ k ∧ (tailU U full k).length ≤ k := by
  unfold headU tailU
  exact ⟨Nat.le_trans (List.length_filter_le _ _) (by simp; omega), Nat.le_trans (List.length_filter_le _ _) (by simp; omega)⟩
/-- where a later place is below full, no one before it is not -/
theorem tailU_nil {P : Nat → Bool} {n full k : Nat} (h : k < (placesP P n).length) (hz : ix (placesP P n) k < (full : Int)) : tailU (placesP P n) full k = [] := by
  unfold tailU
  rw [List.filter_eq_nil_iff]
  intro z hmem
  obtain ⟨i, hi, rfl⟩ := List.getElem_of_mem hmem
  have hi2 : i < k := by simp at hi; omega
  have := placesP_lt P n i k hi2 h
  rw [List.getElem_take, ← ix_eq (by omega)]
  simp; omega
/-- the two rows of loop 2 -/
def HTrel (base : Nat) (w : World) (hv tv : Value) (h t : List Int) : Prop :=
  Own 3 base w hv h ∧ ((tv = .slice none 0 0 ∧ t = []) ∨ (t ≠ [] ∧ ∃ b2, base ≤ b2 ∧ b2 ≤ w.heap.size ∧ (∀ r, hv.ownBlock = some r → r < b2) ∧ Own 3 b2 w tv t))
theorem HTrel.tail {base : Nat} {w : World} {hv tv : Value} {h t : List Int} (r : HTrel base w hv tv h t) : ∃ b2, base ≤ b2 ∧ Own 3 b2 w tv t := by
  rcases r.2 with ⟨rfl, rfl⟩ | ⟨-, b2, h1, -, -, h2⟩
  · exact ⟨base, Nat.le_refl _, Own.nil _ _ _⟩
  · exact ⟨b2, h1, h2⟩
theorem Own.blockLt {e : TypeId} {base : Nat} {w : World} {v : Value} {xs : List Int} (h : Own e base w v xs) : ∀ r, v.ownBlock = some r → r < w.heap.size := fun r hr => (World.ownsRow.lt h r hr).2
/-- the tail's row takes one more: the head's is as it was -/
theorem HTrel.addT {base : Nat} {w : World} {hv tv : Value} {h t : List Int} (r : HTrel base w hv tv h t) (hb : base ≤ w.heap.size) :
    ∃ b2, base ≤ b2 ∧ b2 ≤ w.heap.size ∧ Own 3 b2 w tv t ∧ (∀ z (o : Obj) v' w', Own 3 b2 w' v' (t ++ [z]) → (w.alloc o).grownBy w' tv.ownBlock → HTrel base w' hv v' h (t ++ [z])) := by
  have hfin : ∀ b2, base ≤ b2 → b2 ≤ w.heap.size → (∀ r, hv.ownBlock = some r → r < b2) → Own 3 b2 w tv t → (∀ z (o : Obj) v' w', Own 3 b2 w' v' (t ++ [z]) → (w.alloc o).grownBy w' tv.ownBlock → HTrel base w' hv v' h (t ++ [z])) := by
    intro b2 h1 h2 h3 h4 z o v' w' ho hg
    refine ⟨(r.1.alloc o).grownNe hg (fun k hk e => ?_), .inr ⟨by simp, b2, h1, Nat.le_trans (size_alloc_le h2 o) hg.size, h3, ho⟩⟩
    have := h3 k hk
    have := h4.row k e
    omega
  rcases r.2 with ⟨rfl, rfl⟩ | ⟨-, b2, h1, h2, h3, h4⟩
  · exact ⟨w.heap.size, hb, Nat.le_refl _, Own.nil _ _ _, hfin _ hb (Nat.le_refl _) r.1.blockLt (Own.nil _ _ _)⟩
  · exact ⟨b2, h1, h2, h4, hfin _ h1 h2 h3 h4⟩
/-- all plans, the first one and those with a wiping -/
def plansL (x y lo hi full k : Nat) : List (List (Nat × Option Nat)) := [(x, some y)] :: plansTo lo hi full k
theorem plansL_succ (x y lo hi full k : Nat) : plansL x y lo hi full (k + 1) = plansL x y lo hi full k ++ plansAt lo hi (full + k) := rfl
theorem plansTo_len (lo hi full k : Nat) : (plansTo lo hi full k).length ≤ 2 * k := by
  induction k with
  | zero => exact Nat.le_refl _
  | succ k ih =>
    unfold plansTo
    rw [List.length_append]
    have : (plansAt lo hi (full + k)).length ≤ 2 := by unfold plansAt; split <;> simp
    omega
theorem lit1 (W : World) (base x y : Nat) (hb : base ≤ W.heap.size) :
    VOwn 176 base ((W.alloc (.cells #[.int .i64 (x : Int), .int .i64 (y : Int)] 175)).alloc (.cells #[.slice (some ⟨W.heap.size, 0, none⟩) 1 1] 176)) (.slice (some ⟨W.heap.size + 1, 0, none⟩) 1 1) [.slice (some ⟨W.heap.size, 0, none⟩) 1 1] ∧
    StL ((W.alloc (.cells #[.int .i64 (x : Int), .int .i64 (y : Int)] 175)).alloc (.cells #[.slice (some ⟨W.heap.size, 0, none⟩) 1 1] 176)) [.slice (some ⟨W.heap.size, 0, none⟩) 1 1] [[(x, some y)]] := by
  have h1 := Blk.new (W.alloc (.cells #[.int .i64 (x : Int), .int .i64 (y : Int)] 175)) #[.slice (some ⟨W.heap.size, 0, none⟩) 1 1] 176
  rw [World.size_alloc] at h1
  exact ⟨vown_of_blk (us := [.slice (some ⟨W.heap.size, 0, none⟩) 1 1]) h1 (by omega) (by simp), StL.one ((stB_new W [(x, some y)]).below (below1 _ _))⟩
/-- the best of the first k -/
def bestU (f : Nat → List Int) : Nat → List Int
  | 0 => []
  | k + 1 => if k = 0 then f 0 else betterS (bestU f k) (f k)
theorem bestU_all (g : List (Nat × Option Nat) → List Int) (l0 : List (Nat × Option Nat)) (L : List (List (Nat × Option Nat))) : ∀ k, k ≤ L.length → bestU (fun i => g (plx (l0 :: L) i)) (k + 1) = bestS (g l0) ((L.take k).map g) := by
  intro k hk
  induction k with
  | zero => rfl
  | succ k ih =>
    have e : bestU (fun i => g (plx (l0 :: L) i)) (k + 1 + 1) = betterS (bestU (fun i => g (plx (l0 :: L) i)) (k + 1)) (g (plx (l0 :: L) (k + 1))) := by rw [bestU, if_neg (by omega)]
    rw [e, ih (by omega), List.take_add_one, List.getElem?_eq_getElem (show k < L.length by omega), plx_eq (by simp; omega), List.getElem_cons_succ, Option.toList_some, List.map_append, List.map_cons, List.map_nil, bestS_snoc]
/-- each step of each plan lies within n -/
def PlansOk (n : Nat) (L : List (List (Nat × Option Nat))) : Prop := ∀ l ∈ L, l.length ≤ 4 ∧ (∀ p ∈ l, p.1 ≤ n ∧ ∀ y, p.2 = some y → y ≤ n)
theorem plansL_ok (n x y lo hi full k : Nat) (h1 : x ≤ n) (h2 : y ≤ n) (h3 : lo ≤ n) (h4 : hi ≤ n) (h5 : full + k ≤ n + 1) : PlansOk n (plansL x y lo hi full k) := by
  have hT : ∀ k, full + k ≤ n + 1 → PlansOk n (plansTo lo hi full k) := by
    intro k hk
    induction k with
    | zero => intro l hl; simp [plansTo] at hl
    | succ k ih =>
      intro l hl
      unfold plansTo at hl
      rcases List.mem_append.1 hl with hl | hl
      · exact ih (by omega) l hl
      · unfold plansAt at hl
        split at hl
        · simp only [List.mem_cons, List.not_mem_nil, or_false] at hl
          rcases hl with rfl | rfl <;> refine ⟨by simp, fun p hp => ?_⟩ <;> simp only [List.mem_cons, List.not_mem_nil, or_false] at hp <;> rcases hp with rfl | rfl <;> refine ⟨by first | exact h3 | (show full + k ≤ n; omega), fun y hy => ?_⟩ <;> first | (simp at hy; done) | (simp only [Option.some.injEq] at hy; omega)
        · simp only [List.mem_cons, List.not_mem_nil, or_false] at hl
          subst hl
          refine ⟨by simp, fun p hp => ?_⟩
          simp only [List.mem_cons, List.not_mem_nil, or_false] at hp
          subst hp
          exact ⟨by show full + k ≤ n; omega, fun y hy => by simp at hy⟩
  intro l hl
  rcases List.mem_cons.1 hl with rfl | hl
  · refine ⟨by simp, fun p hp => ?_⟩
    simp only [List.mem_cons, List.not_mem_nil, or_false] at hp
    subst hp
    exact ⟨h1, fun z hz => by simp only [Option.some.injEq] at hz; omega⟩
  · exact hT k h5 l hl

set_option maxRecDepth 100000 in
set_option maxHeartbeats 8000000 in
theorem ref_paint (aa ba : Option Addr) (n ca cb pa pb full x y lo hi fi la : Nat) (A B : List Int) (w : World) (ha : Sl w (.slice aa n ca) A) (hb : Sl w (.slice ba n cb) B) (hAN0 : A.length = n) (hBN0 : B.length = n) (hpa : pa ≤ n) (hpb : pb ≤ n) (H : PaintPar A B n full x y lo hi fi la) :
    Calls Try.prog 39 #[.agg #[.slice aa n ca, .int .i64 (pa : Int)], .agg #[.slice ba n cb, .int .i64 (pb : Int)]] w (fun e w' => ∃ v, e = .returned v ∧ Sl w' v (paintV B pa pb x y full lo hi fi la) ∧ Below w.heap.size w w') := by
  have HH := Lib.hid H
  have hn2 := H.n2; have hn := H.n120
  have hxn := H.all.yt; have hxy := H.all.xy
  have hlh := H.head.xy; have hhf := H.head.yt; have hfn := H.fullp.le; have hff := H.tail.fx; have hfl := H.tail.xy; have hln := H.tail.yt
  have HAN := Lib.hid hAN0; have HBN := Lib.hid hBN0
  obtain ⟨ab1, ao1, rfl, -⟩ := ha.get.2.2.2.1.at (k := 0) (by rw [HAN.out]; omega)
  obtain ⟨bb1, bo1, rfl, -⟩ := hb.get.2.2.2.1.at (k := 0) (by rw [HBN.out]; omega)
  have HA := Lib.hid ha; have HB := Lib.hid hb
  have hB2 := (Blk.new w #[.slice (some ⟨ab1, ao1, none⟩) n ca, .int .i64 (pa : Int)] 59).alloc (.cells #[.slice (some ⟨bb1, bo1, none⟩) n cb, .int .i64 (pb : Int)] 59)
  have hB3 := Blk.new (w.alloc (.cells #[.slice (some ⟨ab1, ao1, none⟩) n ca, .int .i64 (pa : Int)] 59)) #[.slice (some ⟨bb1, bo1, none⟩) n cb, .int .i64 (pb : Int)] 59
  rw [World.size_alloc] at hB3
  have hacc := below2 w (.cells #[.slice (some ⟨ab1, ao1, none⟩) n ca, .int .i64 (pa : Int)] 59) (.cells #[.slice (some ⟨bb1, bo1, none⟩) n cb, .int .i64 (pb : Int)] 59)
  have hsz : w.heap.size + 2 ≤ ((w.alloc (.cells #[.slice (some ⟨ab1, ao1, none⟩) n ca, .int .i64 (pa : Int)] 59)).alloc (.cells #[.slice (some ⟨bb1, bo1, none⟩) n cb, .int .i64 (pb : Int)] 59)).heap.size := by simp
  have HPV := Lib.hid (paintV_eq B pa pb x y full lo hi fi la)
  clear ha hb H hAN0 hBN0
  go_enter Try.func39, Try.ntmps39
  go_upto_region 1 with fail
  have HA1 := Lib.hid (HA.out.below hacc); have HB1 := Lib.hid (HB.out.below hacc)
  clear HA HB
  generalize ((w.alloc (.cells #[.slice (some ⟨ab1, ao1, none⟩) n ca, .int .i64 (pa : Int)] 59)).alloc (.cells #[.slice (some ⟨bb1, bo1, none⟩) n cb, .int .i64 (pb : Int)] 59)) = V at *
  obtain ⟨B2, hB2e⟩ : ∃ B2, w.heap.size = B2 := ⟨_, rfl⟩
  obtain ⟨B3, hB3e⟩ : ∃ B3, w.heap.size + 1 = B3 := ⟨_, rfl⟩
  rw [hB2e] at hB2
  rw [hB3e] at hB3
  simp only [hB3e]
  simp only [hB2e]
  have hsz0 : w.heap.size ≤ V.heap.size := by omega
  clear hB2e hB3e hsz
  obtain ⟨c0, c1, -⟩ := hB2.two
  obtain ⟨d0, d1, -⟩ := hB3.two
  go_wp2
  clear c0 c1 d0 d1
  go_loopw [6, 7, 25] (fun fv uv i wr => ∃ k f : Nat, i = .int .i64 (k : Int) ∧ fv = .int .i64 (f : Int) ∧ k ≤ n ∧ Hid (FullP B k f) ∧ Own 3 V.heap.size wr uv (placesP (unlikeP A B 0 n) k) ∧ Below V.heap.size V wr) (fun _ _ i _ => n - (intOf i).toNat)
  case atStart => exact ⟨0, 0, rfl, rfl, Nat.zero_le _, Lib.hid ⟨Nat.le_refl _, fun i h1 h2 => by omega, fun h => by omega⟩, Own.nil _ _ _, Below.refl _ _⟩
  case round =>
    obtain ⟨k, f, rfl, rfl, hk, HF, hown, hbr⟩ := hrel
    obtain ⟨ua, un, uc, rfl⟩ := hown.form
    have hB2r := hB2.below hbr hB2.lt; have hB3r := hB3.below hbr hB3.lt
    have hzr := hbr.size
    obtain ⟨c0, c1, -⟩ := hB2r.two
    obtain ⟨d0, d1, -⟩ := hB3r.two
    by_cases hlt : k < n
    · have eA := (HA1.out.below hbr).get.2.2.2.1.cellA (k := k) (by rw [HAN.out]; exact hlt)
      have eB := (HB1.out.below hbr).get.2.2.2.1.cellA (k := k) (by rw [HBN.out]; exact hlt)
      have i1 : (k : Int) < (n : Int) := by omega
      have hul := placesP_len (unlikeP A B 0 n) k
      by_cases hb32 : ix B k = 32
      · have HF2 := Lib.hid (HF.out.succ hb32)
        have hd : (ix B k == 32) = true := by simpa using hb32
        by_cases hab : ix A k = ix B k
        · have hd2 : (ix A k == ix B k) = true := by simpa using hab
          have HU := Lib.hid (show placesP (unlikeP A B 0 n) (k + 1) = placesP (unlikeP A B 0 n) k by rw [placesP, if_neg (by simp [unlikeP, hab])])
          clear hb32 hab
          go_wp2
          go_quiet (fail)
          all_goals
            go_wp2
            go_roundw
            case rel => exact ⟨k + 1, f, by go_num, rfl, by omega, HF2, by rw [HU.out]; exact hown.drewN _, below_drewN hbr _⟩
            case measure => simp [intOf]; omega
        · have hd2 : (ix A k == ix B k) = false := by simpa using hab
          have HU := Lib.hid (show placesP (unlikeP A B 0 n) (k + 1) = placesP (unlikeP A B 0 n) k ++ [(k : Int)] by rw [placesP, if_pos (by simp [unlikeP, hab, hlt])])
          clear hb32 hab
          go_wp2
          go_quiet (fail)
          all_goals
            go_wp2_with (at_builtin; refine appN rfl _ _ rfl V.heap.size _ _ [(k : Int)] _ 1 1 rfl rfl ((hown.drewN _).alloc _) (intsOne _ _) rfl (by omega) (by simp; omega) ?_; intro v9 w9 o9 hgrow9 _)
            go_roundw
            case rel => exact ⟨k + 1, f, by go_num, rfl, by omega, HF2, by rw [HU.out]; exact o9, ((below_drewN hbr _).alloc hzr _).grown hgrow9 (by simp; omega) hown.row⟩
            case measure => simp [intOf]; omega
      · have HF2 := Lib.hid (FullP.here hb32)
        have hd : (ix B k == 32) = false := by simpa using hb32
        by_cases hab : ix A k = ix B k
        · have hd2 : (ix A k == ix B k) = true := by simpa using hab
          have HU := Lib.hid (show placesP (unlikeP A B 0 n) (k + 1) = placesP (unlikeP A B 0 n) k by rw [placesP, if_neg (by simp [unlikeP, hab])])
          clear hb32 hab
          go_wp2
          go_quiet (fail)
          all_goals
            go_wp2
            go_roundw
            case rel => exact ⟨k + 1, k + 1, by go_num, by go_num, by omega, HF2, by rw [HU.out]; exact hown.drewN _, below_drewN hbr _⟩
            case measure => simp [intOf]; omega
        · have hd2 : (ix A k == ix B k) = false := by simpa using hab
          have HU := Lib.hid (show placesP (unlikeP A B 0 n) (k + 1) = placesP (unlikeP A B 0 n) k ++ [(k : Int)] by rw [placesP, if_pos (by simp [unlikeP, hab, hlt])])
          clear hb32 hab
          go_wp2
          go_quiet (fail)
          all_goals
            go_wp2_with (at_builtin; refine appN rfl _ _ rfl V.heap.size _ _ [(k : Int)] _ 1 1 rfl rfl ((hown.drewN _).alloc _) (intsOne _ _) rfl (by omega) (by simp; omega) ?_; intro v9 w9 o9 hgrow9 _)
            go_roundw
            case rel => exact ⟨k + 1, k + 1, by go_num, by go_num, by omega, HF2, by rw [HU.out]; exact o9, ((below_drewN hbr _).alloc hzr _).grown hgrow9 (by simp; omega) hown.row⟩
            case measure => simp [intOf]; omega
    · obtain rfl : n = k := by omega
      obtain rfl : full = f := (HF.out.unique HH.out.fullp).symm
      clear HF
      obtain ⟨U, hU⟩ : ∃ U, placesP (unlikeP A B 0 n) n = U := ⟨_, rfl⟩
      have HUE := Lib.hid hU
      rw [hU] at hown
      obtain ⟨hpos, hends⟩ := HH.out.all.places n (Nat.le_refl _)
      rw [hU] at hpos hends
      have HPOS := Lib.hid hpos; have HENDS := Lib.hid hends
      have hul : U.length ≤ n := by rw [← hU]; exact placesP_len _ _
      have haccr := below_then hacc hsz0 hbr
      obtain ⟨W, hW⟩ : ∃ W, W = wr := ⟨_, rfl⟩
      subst hW
      clear hU hpos hends
      rcases Nat.lt_or_ge x y with hxy1 | hxy1
      · obtain ⟨g, un', uc', hv, hg1, hg2, hg3, hg4, hg5, hg6, hUI⟩ := hown.full (HPOS.out.1 hxy1)
        simp only [Value.slice.injEq] at hv
        obtain ⟨rfl, rfl, rfl⟩ := hv
        have hun : U.length = un := by omega
        have hunp : 0 < un := by have := HPOS.out.1 hxy1; omega
        have e0 := hUI.cellA (k := 0) (by omega)
        have eL := hUI.cellA (k := un - 1) (by omega)
        obtain ⟨hx0, hy0⟩ := HENDS.out hxy1
        rw [hx0] at e0
        rw [hun] at hy0
        have hy1 : ix U (un - 1) = ((y - 1 : Nat) : Int) := by omega
        rw [hy1] at eL
        simp only [Nat.zero_add] at eL e0
        have i0 : (0 : Int) < (un : Int) := by omega
        have i1 : (un : Int) - 1 = ((un - 1 : Nat) : Int) := by omega
        have i2 : ((un - 1 : Nat) : Int) < (un : Int) := by omega
        have i3 : ((y - 1 : Nat) : Int) + 1 = (y : Int) := by omega
        have i4 : ((un : Int) == 0) = false := by simp; omega
        have HUN := Lib.hid hun
        have HUI := Lib.hid hUI
        clear hx0 hy0 hy1 hg1 hg2 hun hUI
        go_upto_region 13 with fail
        generalize un - 1 = um at *
        generalize y - 1 = ym at *
        go_cut [9] (fun v wx => ∃ pv us, v = pv ∧ VOwn 176 V.heap.size wx pv us ∧ StL wx us [[(x, some y)]] ∧ Below W.heap.size W wx)
        case first =>
          go_region
          all_goals
            go_wp2
            go_meet
            exact ⟨_, _, rfl, (lit1 W V.heap.size x y hzr).1.drew, (lit1 W V.heap.size x y hzr).2, (below2 W _ _).drew⟩
        case rest =>
          obtain ⟨pv, us, rfl, hpv, hst, hbx⟩ := hcut
          have HU1 := Lib.hid (HUI.out.below hbx)
          have hbV1 := hbr.trans (hbx.mono hzr)
          obtain ⟨W1, hW1⟩ : ∃ W1, W1 = wc := ⟨_, rfl⟩
          subst hW1
          clear e0 eL i1 i2 i3 hbx HUI hown c0 c1 d0 d1
          go_wp2
          go_loopw [10, 11, 77] (fun hv tv i wr => ∃ k : Nat, i = .int .i64 (k : Int) ∧ k ≤ un ∧ HTrel W1.heap.size wr hv tv (headU U full k) (tailU U full k) ∧ Below W1.heap.size W1 wr) (fun _ _ i _ => un - (intOf i).toNat)
          case atStart => exact ⟨0, rfl, Nat.zero_le _, ⟨Own.nil _ _ _, .inl ⟨rfl, rfl⟩⟩, Below.refl _ _⟩
          case round =>
            obtain ⟨k, rfl, hk, hht, hbr2⟩ := hrel
            have hzr2 := hbr2.size
            by_cases hlt : k < un
            · have hkU : k < U.length := by rw [HUN.out]; exact hlt
              have eU := (HU1.out.below hbr2).cellA hkU
              simp only [Nat.zero_add] at eU
              have hlens := headU_len U full k
              have i1 : (k : Int) < (un : Int) := by omega
              by_cases hz : ix U k < (full : Int)
              · obtain ⟨hh1, hh2⟩ := headU_lt hkU hz
                have htn : tailU U full k = [] := by
                  have := tailU_nil (P := unlikeP A B 0 n) (n := n) (full := full) (k := k) (by rw [HUE.out]; exact hkU) (by rw [HUE.out]; exact hz)
                  rwa [HUE.out] at this
                have HH1 := Lib.hid hh1; have HH2 := Lib.hid hh2; have HTN := Lib.hid htn
                obtain ⟨hoh, hto⟩ := hht
                obtain rfl : u11 = .slice none 0 0 := by
                  rcases hto with ⟨h, -⟩ | ⟨h, -⟩
                  · exact h
                  · exact absurd htn h
                clear hto hh1 hh2 htn
                obtain ⟨ha, hn', hc, rfl⟩ := hoh.form
                go_wp2_with (at_builtin; refine appN rfl _ _ rfl W1.heap.size _ _ [ix U k] _ 1 1 rfl rfl (hoh.alloc _) (intsOne _ _) rfl (by omega) (by simp; omega) ?_; intro v9 w9 o9 hgrow9 _)
                go_roundw
                case rel => exact ⟨k + 1, by go_num, by omega, by rw [HH1.out, HH2.out, HTN.out]; exact ⟨o9, .inl ⟨rfl, rfl⟩⟩, (hbr2.alloc hzr2 _).grown hgrow9 (by simp; omega) hoh.row⟩
                case measure => simp [intOf]; omega
              · obtain ⟨hh1, hh2⟩ := headU_ge hkU hz
                have HH1 := Lib.hid hh1; have HH2 := Lib.hid hh2
                obtain ⟨b2, hb2, hb3, hto, hadd⟩ := hht.addT hzr2
                have HADD := Lib.hid hadd
                obtain ⟨ta, tn, tc, rfl⟩ := hto.form
                clear hh1 hh2 hadd hht
                go_wp2_with (at_builtin; refine appN rfl _ _ rfl b2 _ _ [ix U k] _ 1 1 rfl rfl (hto.alloc _) (intsOne _ _) rfl (by omega) (by simp; omega) ?_; intro v9 w9 o9 hgrow9 _)
                go_roundw
                case rel => exact ⟨k + 1, by go_num, by omega, by rw [HH1.out, HH2.out]; exact HADD.out _ _ _ _ o9 hgrow9, (hbr2.alloc hzr2 _).grown hgrow9 (by simp; omega) (fun q hq => Nat.le_trans hb2 (hto.row q hq))⟩
                case measure => simp [intOf]; omega
            · obtain rfl : un = k := by omega
              have hHd : headU U full un = placesP (unlikeP A B 0 full) n := by unfold headU; rw [List.take_of_length_le (by rw [HUN.out]; exact Nat.le_refl _), ← HUE.out]; exact unlike_head A B full n hfn
              have hTl : tailU U full un = placesP (unlikeP A B full n) n := by unfold tailU; rw [List.take_of_length_le (by rw [HUN.out]; exact Nat.le_refl _), ← HUE.out]; exact unlike_tail A B full n
              rw [hHd, hTl] at hht
              obtain ⟨hpos, hends⟩ := HH.out.head.places n hfn
              obtain ⟨tpos, tends⟩ := HH.out.tail.places n (Nat.le_refl _)
              have hHdl := placesP_len (unlikeP A B 0 full) n
              have hTdl := placesP_len (unlikeP A B full n) n
              generalize placesP (unlikeP A B 0 full) n = Hd at *
              generalize placesP (unlikeP A B full n) n = Tl at *
              have HHPOS := Lib.hid hpos; have HHENDS := Lib.hid hends
              obtain ⟨ha, hn', hc, rfl⟩ := hht.1.form
              obtain ⟨b2, hb2, hot⟩ := hht.tail
              obtain ⟨ta, tn, tc, rfl⟩ := hot.form
              have HHN := Lib.hid hht.1.get.1; have HTN := Lib.hid hot.get.1
              have hhnn : hn' ≤ n := by rw [← HHN.out]; exact hHdl
              have htnn : tn ≤ n := by rw [← HTN.out]; exact hTdl
              have HOH := Lib.hid hht.1; have HOT := Lib.hid hot
              obtain ⟨W2, hW2⟩ : ∃ W2, W2 = wr := ⟨_, rfl⟩
              subst hW2
              have hpv2 := hpv.kept hbr2; have hst2 := hst.below hbr2
              have hbV2 := hbV1.trans (hbr2.mono hbV1.size)
              clear hHd hTl hpos hends hht hot
              rcases Nat.lt_or_ge fi la with htl | htl
              · have htn0 : 0 < tn := by have := tpos.1 htl; have := HTN.out; omega
                obtain ⟨tg, tn2, tc2, hv, q1, q2, q3, q4, q5, q6, -⟩ := HOT.out.full (by rw [HTN.out]; exact htn0)
                simp only [Value.slice.injEq] at hv
                obtain ⟨rfl, rfl, rfl⟩ := hv
                have HTF := Lib.hid (tends htl).1
                have i1 : (0 : Int) < (tn : Int) := by omega
                clear q1 q2 q3 q4 q5 q6 tpos tends
                go_wp2
                go_loopw [9, 14] (fun pv p wr => ∃ (P j : Nat) (us : List Value), p = .int .i64 (P : Int) ∧ Hid (P = full + j) ∧ j ≤ fi + 1 - full ∧ P ≤ fi + 1 ∧ VOwn 176 V.heap.size wr pv us ∧ StL wr us (plansL x y lo hi full j) ∧ Own 3 W1.heap.size wr (.slice ha hn' hc) Hd ∧ Own 3 b2 wr (.slice (some ⟨tg, 0, none⟩) tn tc) Tl ∧ Below V.heap.size V wr) (fun _ p _ => fi + 1 - (intOf p).toNat)
                case atStart => exact ⟨full, 0, us, rfl, Lib.hid rfl, Nat.zero_le _, by omega, hpv2, hst2, HOH.out, HOT.out, hbV2⟩
                case round =>
                  obtain ⟨P, j, us3, rfl, HP, hj, hPle, hpv3, hst3, hoh3, hot3, hbr3⟩ := hrel
                  obtain ⟨pa3, pn3, pc3, rfl⟩ := hpv3.form
                  have ht0 := hot3.get.2.1.cellA (k := 0) (by rw [HTN.out]; exact htn0)
                  rw [HTF.out] at ht0
                  simp only [Nat.zero_add] at ht0
                  have hzV3 := hbr3.size
                  have hpl3 := hst3.1
                  have hplen := plansTo_len lo hi full j
                  have hpl4 : us3.length ≤ 1000 := by rw [hpl3]; unfold plansL; simp; omega
                  by_cases hlt : P ≤ fi
                  · have i1 : (P : Int) ≤ (fi : Int) := by omega
                    have hWp := Blk.new wr #[.int .i64 (P : Int), .int .i64 (-1)] 175
                    have hk1 := below1 wr (.cells #[.int .i64 (P : Int), .int .i64 (-1)] 175)
                    go_upto_region 27 with fail
                    have HPV2 := Lib.hid (hpv3.alloc (.cells #[.int .i64 (P : Int), .int .i64 (-1)] 175)); have HST2 := Lib.hid (hst3.below hk1)
                    have HOH2 := Lib.hid (hoh3.alloc (.cells #[.int .i64 (P : Int), .int .i64 (-1)] 175)); have HOT2 := Lib.hid (hot3.alloc (.cells #[.int .i64 (P : Int), .int .i64 (-1)] 175))
                    have hbr4 := below_then hbr3 hbr3.size hk1
                    have hbr4 := hbr3.alloc hzV3 (.cells #[.int .i64 (P : Int), .int .i64 (-1)] 175)
                    have hz4 : V.heap.size ≤ (wr.alloc (.cells #[.int .i64 (P : Int), .int .i64 (-1)] 175)).heap.size := size_alloc_le hzV3 _
                    generalize (wr.alloc (.cells #[.int .i64 (P : Int), .int .i64 (-1)] 175)) = w4 at *
                    generalize wr.heap.size = wb at *
                    obtain ⟨p0, p1, -⟩ := hWp.two
                    clear hpv3 hst3 hoh3 hot3 hk1 ht0 hbr3
                    by_cases hm : lo < hi
                    · have HPA := Lib.hid (show plansL x y lo hi full (j + 1) = plansL x y lo hi full j ++ [[(lo, some hi), (P, none)], [(P, none), (lo, some hi)]] by rw [plansL_succ]; unfold plansAt; rw [if_pos hm, ← HP.out])
                      have hhn0 : 0 < hn' := by have := HHPOS.out.1 hm; have := HHN.out; omega
                      obtain ⟨hg, hn2', hc2, hv, q1, q2, q3, q4, q5, q6, hHI⟩ := HOH2.out.full (by rw [HHN.out]; exact hhn0)
                      simp only [Value.slice.injEq] at hv
                      obtain ⟨rfl, rfl, rfl⟩ := hv
                      have f0 := hHI.cellA (k := 0) (by rw [HHN.out]; exact hhn0)
                      have fL := hHI.cellA (k := hn' - 1) (by rw [HHN.out]; omega)
                      obtain ⟨hx0, hy0⟩ := HHENDS.out hm
                      rw [hx0] at f0
                      rw [HHN.out] at hy0
                      have hy1 : ix Hd (hn' - 1) = ((hi - 1 : Nat) : Int) := by omega
                      rw [hy1] at fL
                      simp only [Nat.zero_add] at fL f0
                      have i0 : (0 : Int) < (hn' : Int) := by omega
                      have i2 : (hn' : Int) - 1 = ((hn' - 1 : Nat) : Int) := by omega
                      have i3 : ((hn' - 1 : Nat) : Int) < (hn' : Int) := by omega
                      have i4 : ((hi - 1 : Nat) : Int) + 1 = (hi : Int) := by omega
                      have i5 : ((hn' : Int) == 0) = false := by simp; omega
                      clear hx0 hy0 hy1 q1 q2 q3 q4 q5 q6 hHI
                      go_upto_region 29 with fail
                      generalize hn' - 1 = hm1 at *
                      generalize hi - 1 = hi1 at *
                      have f0z := below_keeps (below1 w4 (.cells #[.int .i64 0, .int .i64 0] 175)) _ _ f0
                      have fLz := below_keeps (below1 w4 (.cells #[.int .i64 0, .int .i64 0] 175)) _ _ fL
                      go_cut [16] (fun v wx => ∃ fb, v = .pointer (some ⟨fb, 0, none⟩) ∧ Blk wx fb #[.int .i64 (lo : Int), .int .i64 (hi : Int)] 175 ∧ Below w4.heap.size w4 wx)
                      case first =>
                        go_region
                        all_goals
                          go_wp2
                          go_meet
                          exact ⟨_, rfl, (Blk.new _ _ _).drew, (below1 _ _).drew⟩
                      case rest =>
                        obtain ⟨fb, rfl, hF, hbx5⟩ := hcut
                        obtain ⟨W5, hW5⟩ : ∃ W5, W5 = wc := ⟨_, rfl⟩
                        subst hW5
                        have hW5p := hWp.below hbx5 hWp.lt
                        have HPV5 := Lib.hid (HPV2.out.kept hbx5); have HST5 := Lib.hid (HST2.out.below hbx5)
                        have HOH5 := Lib.hid (HOH2.out.kept hbx5); have HOT5 := Lib.hid (HOT2.out.kept hbx5)
                        have hbr5 := hbr4.trans (hbx5.mono hz4)
                        have hz5 := hbr5.size
                        have hvl := vals_lit ((W5.alloc (.cells #[.int .i64 (lo : Int), .int .i64 (hi : Int), .int .i64 (P : Int), .int .i64 (-1)] 175)).alloc (.cells #[.int .i64 (P : Int), .int .i64 (-1), .int .i64 (lo : Int), .int .i64 (hi : Int)] 175)) [(.slice (some ⟨W5.heap.size, 0, none⟩) 2 2), (.slice (some ⟨W5.heap.size + 1, 0, none⟩) 2 2)] 176
                        rw [World.size_alloc, World.size_alloc] at hvl
                        have hs1 := (stB_new W5 [(lo, some hi), (P, none)]).below (below2 (W5.alloc (.cells #[.int .i64 (lo : Int), .int .i64 (hi : Int), .int .i64 (P : Int), .int .i64 (-1)] 175)) (.cells #[.int .i64 (P : Int), .int .i64 (-1), .int .i64 (lo : Int), .int .i64 (hi : Int)] 175) (.cells #[(.slice (some ⟨W5.heap.size, 0, none⟩) 2 2), (.slice (some ⟨W5.heap.size + 1, 0, none⟩) 2 2)] 176))
                        have hs2 := (stB_new (W5.alloc (.cells #[.int .i64 (lo : Int), .int .i64 (hi : Int), .int .i64 (P : Int), .int .i64 (-1)] 175)) [(P, none), (lo, some hi)]).below (below1 ((W5.alloc (.cells #[.int .i64 (lo : Int), .int .i64 (hi : Int), .int .i64 (P : Int), .int .i64 (-1)] 175)).alloc (.cells #[.int .i64 (P : Int), .int .i64 (-1), .int .i64 (lo : Int), .int .i64 (hi : Int)] 175)) (.cells #[(.slice (some ⟨W5.heap.size, 0, none⟩) 2 2), (.slice (some ⟨W5.heap.size + 1, 0, none⟩) 2 2)] 176))
                        rw [World.size_alloc] at hs2
                        have hs12 := (StL.one hs1).append (StL.one hs2)
                        have HS12 := Lib.hid hs12
                        have HVL := Lib.hid hvl
                        clear hvl hs1 hs2 hs12 p0 p1 f0 fL i0 i2 i3 hWp hbr4 hbx5
                        obtain ⟨p0, p1, -⟩ := hW5p.two
                        obtain ⟨f0, f1, -⟩ := hF.two
                        obtain ⟨p2, p3, -⟩ := (hW5p.alloc (.cells #[.int .i64 (lo : Int), .int .i64 (hi : Int), .int .i64 (P : Int), .int .i64 (-1)] 175)).two
                        obtain ⟨f2, f3, -⟩ := (hF.alloc (.cells #[.int .i64 (lo : Int), .int .i64 (hi : Int), .int .i64 (P : Int), .int .i64 (-1)] 175)).two
                        go_wp2_with (at_builtin; refine papp rfl _ _ rfl V.heap.size _ us3 [(.slice (some ⟨W5.heap.size, 0, none⟩) 2 2), (.slice (some ⟨W5.heap.size + 1, 0, none⟩) 2 2)] _ 2 2 rfl rfl (((HPV5.out.alloc _).alloc _).alloc _) HVL.out HS12.out.sls rfl (by simp; omega) (by simp; omega) ?_; intro v9 w9 o9 hgrow9)
                        have hst9 := (((HST5.out.below (below3 W5 (.cells #[.int .i64 (lo : Int), .int .i64 (hi : Int), .int .i64 (P : Int), .int .i64 (-1)] 175) (.cells #[.int .i64 (P : Int), .int .i64 (-1), .int .i64 (lo : Int), .int .i64 (hi : Int)] 175) (.cells #[(.slice (some ⟨W5.heap.size, 0, none⟩) 2 2), (.slice (some ⟨W5.heap.size + 1, 0, none⟩) 2 2)] 176))).append HS12.out).grown (((HPV5.out.alloc _).alloc _).alloc _) hgrow9)
                        have hoh9 := (((HOH5.out.alloc _).alloc _).alloc _).beside (((HPV5.out.alloc _).alloc _).alloc _) (by decide) hgrow9
                        have hot9 := (((HOT5.out.alloc _).alloc _).alloc _).beside (((HPV5.out.alloc _).alloc _).alloc _) (by decide) hgrow9
                        have hbr9 := (((hbr5.alloc hz5 _).alloc (size_alloc_le hz5 _) _).alloc (size_alloc_le (size_alloc_le hz5 _) _) _).grown hgrow9 (size_alloc_le (size_alloc_le (size_alloc_le hz5 _) _) _) HPV5.out.row
                        go_wp2
                        go_roundw
                        case rel => exact ⟨P + 1, j + 1, us3 ++ [(.slice (some ⟨W5.heap.size, 0, none⟩) 2 2), (.slice (some ⟨W5.heap.size + 1, 0, none⟩) 2 2)], by go_num, Lib.hid (by have := HP.out; omega), by have := HP.out; omega, by omega, o9, by rw [HPA.out]; exact hst9, hoh9, hot9, hbr9⟩
                        case measure => simp [intOf]; omega
                    · have HPA := Lib.hid (show plansL x y lo hi full (j + 1) = plansL x y lo hi full j ++ [[(P, none)]] by rw [plansL_succ]; unfold plansAt; rw [if_neg hm, ← HP.out])
                      obtain rfl : hn' = 0 := by
                        have := HHN.out
                        rcases Nat.eq_zero_or_pos Hd.length with h | h
                        · omega
                        · exact absurd (HHPOS.out.2 h) hm
                      have hvl := vals_lit (w4.alloc (.cells #[.int .i64 (P : Int), .int .i64 (-1)] 175)) [.slice (some ⟨w4.heap.size, 0, none⟩) 1 1] 176
                      rw [World.size_alloc] at hvl
                      have HVL := Lib.hid hvl
                      clear hvl
                      go_upto_region 28 with fail
                      go_wp2_with (at_builtin; refine papp rfl _ _ rfl V.heap.size _ us3 [.slice (some ⟨w4.heap.size, 0, none⟩) 1 1] _ 1 1 rfl rfl ((HPV2.out.alloc _).alloc _) HVL.out (StL.one (stB_new w4 [(P, none)])).sls rfl (by simp; omega) (by simp; omega) ?_; intro v9 w9 o9 hgrow9)
                      have hst9 := (((HST2.out.below (below2 w4 _ _)).append (StL.one ((stB_new w4 [(P, none)]).below (below1 _ _)))).grown ((HPV2.out.alloc _).alloc _) hgrow9)
                      have hoh9 := ((HOH2.out.alloc _).alloc _).beside ((HPV2.out.alloc _).alloc _) (by decide) hgrow9
                      have hot9 := ((HOT2.out.alloc _).alloc _).beside ((HPV2.out.alloc _).alloc _) (by decide) hgrow9
                      have hbr9 := ((hbr4.alloc hz4 _).alloc (size_alloc_le hz4 _) _).grown hgrow9 (size_alloc_le (size_alloc_le hz4 _) _) HPV2.out.row
                      go_wp2
                      go_roundw
                      case rel => exact ⟨P + 1, j + 1, us3 ++ [.slice (some ⟨w4.heap.size, 0, none⟩) 1 1], by go_num, Lib.hid (by have := HP.out; omega), by have := HP.out; omega, by omega, o9, by rw [HPA.out]; exact hst9, hoh9, hot9, hbr9⟩
                      case measure => simp [intOf]; omega
                  · have i1 : ¬ (P : Int) ≤ (fi : Int) := by omega
                    obtain rfl : j = fi + 1 - full := by have := HP.out; omega
                    obtain ⟨D, hD⟩ : ∃ D, D = wr := ⟨_, rfl⟩
                    subst hD
                    have hpvD := hpv3; have hstD := hst3; have hbD := hbr3
                    clear hpv3 hst3 hoh3 hot3 hbr3 hpl3 hpl4
                    go_upto_region 31 with fail
                    clear ht0
                    have hLok := plansL_ok n x y lo hi full (fi + 1 - full) (by omega) (by omega) (by omega) (by omega) (by omega)
                    obtain ⟨L, hL⟩ : ∃ L, plansL x y lo hi full (fi + 1 - full) = L := ⟨_, rfl⟩
                    rw [hL] at hstD hLok
                    have HL := Lib.hid hL; have HLOK := Lib.hid hLok
                    have hLn : L.length ≤ 1000 := by rw [← hL]; unfold plansL; have := plansTo_len lo hi full (fi + 1 - full); simp; omega
                    have hL1 : 0 < L.length := by rw [← hL]; unfold plansL; simp
                    have hB2D := hB2.below hbD hB2.lt; have hB3D := hB3.below hbD hB3.lt
                    have HBD := Lib.hid (HB1.out.below hbD)
                    obtain ⟨hvn, hvnc, -, hvals, hv0⟩ := hpvD.vs.get
                    have hpn : pn3 = L.length := by rw [← hvn, hstD.1]
                    have HPN := Lib.hid hpn
                    have HVN := Lib.hid hvn
                    have HSTD := Lib.hid hstD
                    clear hL hLok hpn hvn hpvD hstD
                    go_wp2
                    go_loopw [17, 136] (fun bv i wr => ∃ k : Nat, i = .int .i64 (k : Int) ∧ k ≤ pn3 ∧ ((k = 0 ∧ bv = .slice none 0 0) ∨ (0 < k ∧ Sl wr bv (bestU (fun i => planS B pa (plx L i) pb) k))) ∧ Below D.heap.size D wr) (fun _ i _ => pn3 - (intOf i).toNat)
                    case atStart => exact ⟨0, rfl, Nat.zero_le _, .inl ⟨rfl, rfl⟩, Below.refl _ _⟩
                    case round =>
                      obtain ⟨k, rfl, hk, hbest, hbr4⟩ := hrel
                      have hB2r := hB2D.below hbr4 hB2D.lt; have hB3r := hB3D.below hbr4 hB3D.lt
                      obtain ⟨c0, c1, -⟩ := hB2r.two
                      obtain ⟨d0, d1, -⟩ := hB3r.two
                      by_cases hlt : k < pn3
                      · obtain ⟨b1, o1, rfl, hc1⟩ := hvals.at (k := k) (by rw [HVN.out]; exact hlt)
                        have e1 := below_keeps hbr4 _ _ (hc1 k (by rw [HVN.out]; exact hlt))
                        have hkL : k < L.length := by rw [← HPN.out]; exact hlt
                        have hsb := HSTD.out.2 k hkL
                        have hsb4 := hsb.below hbr4
                        obtain ⟨sb, hsbe, -⟩ := id hsb
                        rw [hsbe] at e1 hsb4
                        have hok := HLOK.out (plx L k) (by rw [plx_eq hkL]; exact List.getElem_mem hkL)
                        have HOK := Lib.hid hok
                        have hstp := Lib.hid hsb4.stp
                        have HBR4 := Lib.hid (HBD.out.below hbr4)
                        have i1 : (k : Int) < (pn3 : Int) := by omega
                        have HSBE := Lib.hid hsbe
                        clear hc1 hsb hsb4 hsbe hok
                        obtain ⟨q, hq⟩ : ∃ q, (plx L k).length = q := ⟨_, rfl⟩
                        rw [hq] at e1 hstp
                        have HQ := Lib.hid hq
                        clear hq
                        go_wp2_with fail
                        refine (ref_plan (some ⟨bb1, bo1, none⟩) n cb pa pb B _ q q (plx L k) _ HBR4.out hstp.out HOK.out.1 ?_ ?_ hpa hpb hn).mono ?_
                        · intro i hi; rw [stx_eq hi]; exact (HOK.out.2 _ (List.getElem_mem hi)).1
                        · intro i y hi hy; rw [stx_eq hi] at hy; exact (HOK.out.2 _ (List.getElem_mem hi)).2 y hy
                        rintro e w5 ⟨v5, rfl, hv5, hb5⟩
                        obtain ⟨sa5, sn5, sc5, rfl⟩ := hv5.form
                        have hv5l := hv5.get.1
                        have hbr5 := below_then hbr4 hbr4.size hb5
                        clear c0 c1 d0 d1
                        rcases hbest with ⟨rfl, rfl⟩ | ⟨hk0, hbest⟩
                        · go_wp2
                          go_roundw
                          case rel => exact ⟨1, by go_num, by omega, .inr ⟨by omega, by simpa [bestU] using hv5.sl⟩, hbr5⟩
                          case measure => simp [intOf]; omega
                        · obtain ⟨xb, nb3, cb3, rfl, hxb⟩ := id hbest
                          have hxl := hxb.1
                          have HBEST := Lib.hid (hbest.below hb5)
                          have hd0 : ((k : Int) == 0) = false := by simp; omega
                          have HNEW := Lib.hid (show bestU (fun i => planS B pa (plx L i) pb) (k + 1) = betterS (bestU (fun i => planS B pa (plx L i) pb) k) (planS B pa (plx L k) pb) by rw [bestU, if_neg (by omega)])
                          have HXL := Lib.hid hxl; have HV5 := Lib.hid hv5l; have HS5 := Lib.hid hv5.sl
                          clear hxb hbest hxl hv5l hv5
                          by_cases hbt : sn5 < nb3
                          · have j1 : (sn5 : Int) < (nb3 : Int) := by omega
                            go_wp2
                            go_roundw
                            case rel =>
                              refine ⟨k + 1, by go_num, by omega, .inr ⟨by omega, ?_⟩, hbr5⟩
                              rw [HNEW.out]
                              unfold betterS
                              rw [if_pos (by rw [HXL.out, HV5.out]; exact hbt)]
                              exact HS5.out
                            case measure => simp [intOf]; omega
                          · have j1 : ¬ (sn5 : Int) < (nb3 : Int) := by omega
                            go_wp2
                            go_roundw
                            case rel =>
                              refine ⟨k + 1, by go_num, by omega, .inr ⟨by omega, ?_⟩, hbr5⟩
                              rw [HNEW.out]
                              unfold betterS
                              rw [if_neg (by rw [HXL.out, HV5.out]; exact hbt)]
                              exact HBEST.out
                            case measure => simp [intOf]; omega
                      · have hke : k = pn3 := by omega
                        rcases hbest with ⟨h0, -⟩ | ⟨hk0, hbest⟩
                        · have := HPN.out; omega
                        · obtain ⟨xb, nb3, cb3, rfl, -⟩ := id hbest
                          have HBEST := Lib.hid hbest
                          have HKE := Lib.hid hke
                          have hall := below_then (below_then hacc hsz0 hbD) (Nat.le_trans hsz0 hbD.size) hbr4
                          have i1 : ¬ (k : Int) < (pn3 : Int) := by omega
                          clear hbest hke
                          go_wp2
                          go_ret
                          refine ⟨.slice xb nb3 cb3, rfl, ?_, hall⟩
                          have h1 := HBEST.out
                          have hlen : k = (plansTo lo hi full (fi + 1 - full)).length + 1 := by rw [HKE.out, HPN.out, ← HL.out]; unfold plansL; simp
                          rw [hlen, ← HL.out] at h1
                          unfold plansL at h1
                          rw [bestU_all (fun p => planS B pa p pb) _ _ _ (Nat.le_refl _), List.take_of_length_le (Nat.le_refl _)] at h1
                          rw [HPV.out.2.2 hxy1 htl]
                          exact h1
              · obtain rfl : tn = 0 := by
                  have := HTN.out
                  rcases Nat.eq_zero_or_pos Tl.length with h | h
                  · omega
                  · have := tpos.2 h; omega
                clear tpos tends
                obtain ⟨D, hD⟩ : ∃ D, D = W2 := ⟨_, rfl⟩
                subst hD
                obtain ⟨pa3, pn3, pc3, rfl⟩ := hpv2.form
                have hpvD := hpv2; have hbD := hbV2
                have hstD : StL D us (plansL x y lo hi full 0) := hst2
                clear hpv2 hst2 hbV2
                go_upto_region 31 with fail
                have hLok := plansL_ok n x y lo hi full (0) (by omega) (by omega) (by omega) (by omega) (by omega)
                obtain ⟨L, hL⟩ : ∃ L, plansL x y lo hi full (0) = L := ⟨_, rfl⟩
                rw [hL] at hstD hLok
                have HL := Lib.hid hL; have HLOK := Lib.hid hLok
                have hLn : L.length ≤ 1000 := by rw [← hL]; unfold plansL; have := plansTo_len lo hi full (0); simp; omega
                have hL1 : 0 < L.length := by rw [← hL]; unfold plansL; simp
                have hB2D := hB2.below hbD hB2.lt; have hB3D := hB3.below hbD hB3.lt
                have HBD := Lib.hid (HB1.out.below hbD)
                obtain ⟨hvn, hvnc, -, hvals, hv0⟩ := hpvD.vs.get
                have hpn : pn3 = L.length := by rw [← hvn, hstD.1]
                have HPN := Lib.hid hpn
                have HVN := Lib.hid hvn
                have HSTD := Lib.hid hstD
                clear hL hLok hpn hvn hpvD hstD
                go_wp2
                go_loopw [17, 136] (fun bv i wr => ∃ k : Nat, i = .int .i64 (k : Int) ∧ k ≤ pn3 ∧ ((k = 0 ∧ bv = .slice none 0 0) ∨ (0 < k ∧ Sl wr bv (bestU (fun i => planS B pa (plx L i) pb) k))) ∧ Below D.heap.size D wr) (fun _ i _ => pn3 - (intOf i).toNat)
                case atStart => exact ⟨0, rfl, Nat.zero_le _, .inl ⟨rfl, rfl⟩, Below.refl _ _⟩
                case round =>
                  obtain ⟨k, rfl, hk, hbest, hbr4⟩ := hrel
                  have hB2r := hB2D.below hbr4 hB2D.lt; have hB3r := hB3D.below hbr4 hB3D.lt
                  obtain ⟨c0, c1, -⟩ := hB2r.two
                  obtain ⟨d0, d1, -⟩ := hB3r.two
                  by_cases hlt : k < pn3
                  · obtain ⟨b1, o1, rfl, hc1⟩ := hvals.at (k := k) (by rw [HVN.out]; exact hlt)
                    have e1 := below_keeps hbr4 _ _ (hc1 k (by rw [HVN.out]; exact hlt))
                    have hkL : k < L.length := by rw [← HPN.out]; exact hlt
                    have hsb := HSTD.out.2 k hkL
                    have hsb4 := hsb.below hbr4
                    obtain ⟨sb, hsbe, -⟩ := id hsb
                    rw [hsbe] at e1 hsb4
                    have hok := HLOK.out (plx L k) (by rw [plx_eq hkL]; exact List.getElem_mem hkL)
                    have HOK := Lib.hid hok
                    have hstp := Lib.hid hsb4.stp
                    have HBR4 := Lib.hid (HBD.out.below hbr4)
                    have i1 : (k : Int) < (pn3 : Int) := by omega
                    have HSBE := Lib.hid hsbe
                    clear hc1 hsb hsb4 hsbe hok
                    obtain ⟨q, hq⟩ : ∃ q, (plx L k).length = q := ⟨_, rfl⟩
                    rw [hq] at e1 hstp
                    have HQ := Lib.hid hq
                    clear hq
                    go_wp2_with fail
                    refine (ref_plan (some ⟨bb1, bo1, none⟩) n cb pa pb B _ q q (plx L k) _ HBR4.out hstp.out HOK.out.1 ?_ ?_ hpa hpb hn).mono ?_
                    · intro i hi; rw [stx_eq hi]; exact (HOK.out.2 _ (List.getElem_mem hi)).1
                    · intro i y hi hy; rw [stx_eq hi] at hy; exact (HOK.out.2 _ (List.getElem_mem hi)).2 y hy
                    rintro e w5 ⟨v5, rfl, hv5, hb5⟩
                    obtain ⟨sa5, sn5, sc5, rfl⟩ := hv5.form
                    have hv5l := hv5.get.1
                    have hbr5 := below_then hbr4 hbr4.size hb5
                    clear c0 c1 d0 d1
                    rcases hbest with ⟨rfl, rfl⟩ | ⟨hk0, hbest⟩
                    · go_wp2
                      go_roundw
                      case rel => exact ⟨1, by go_num, by omega, .inr ⟨by omega, by simpa [bestU] using hv5.sl⟩, hbr5⟩
                      case measure => simp [intOf]; omega
                    · obtain ⟨xb, nb3, cb3, rfl, hxb⟩ := id hbest
                      have hxl := hxb.1
                      have HBEST := Lib.hid (hbest.below hb5)
                      have hd0 : ((k : Int) == 0) = false := by simp; omega
                      have HNEW := Lib.hid (show bestU (fun i => planS B pa (plx L i) pb) (k + 1) = betterS (bestU (fun i => planS B pa (plx L i) pb) k) (planS B pa (plx L k) pb) by rw [bestU, if_neg (by omega)])
                      have HXL := Lib.hid hxl; have HV5 := Lib.hid hv5l; have HS5 := Lib.hid hv5.sl
                      clear hxb hbest hxl hv5l hv5
                      by_cases hbt : sn5 < nb3
                      · have j1 : (sn5 : Int) < (nb3 : Int) := by omega
                        go_wp2
                        go_roundw
                        case rel =>
                          refine ⟨k + 1, by go_num, by omega, .inr ⟨by omega, ?_⟩, hbr5⟩
                          rw [HNEW.out]
                          unfold betterS
                          rw [if_pos (by rw [HXL.out, HV5.out]; exact hbt)]
                          exact HS5.out
                        case measure => simp [intOf]; omega
                      · have j1 : ¬ (sn5 : Int) < (nb3 : Int) := by omega
                        go_wp2
                        go_roundw
                        case rel =>
                          refine ⟨k + 1, by go_num, by omega, .inr ⟨by omega, ?_⟩, hbr5⟩
                          rw [HNEW.out]
                          unfold betterS
                          rw [if_neg (by rw [HXL.out, HV5.out]; exact hbt)]
                          exact HBEST.out
                        case measure => simp [intOf]; omega
                  · have hke : k = pn3 := by omega
                    rcases hbest with ⟨h0, -⟩ | ⟨hk0, hbest⟩
                    · have := HPN.out; omega
                    · obtain ⟨xb, nb3, cb3, rfl, -⟩ := id hbest
                      have HBEST := Lib.hid hbest
                      have HKE := Lib.hid hke
                      have hall := below_then (below_then hacc hsz0 hbD) (Nat.le_trans hsz0 hbD.size) hbr4
                      have i1 : ¬ (k : Int) < (pn3 : Int) := by omega
                      clear hbest hke
                      go_wp2
                      go_ret
                      refine ⟨.slice xb nb3 cb3, rfl, ?_, hall⟩
                      have h1 := HBEST.out
                      have hlen : k = (plansTo lo hi full (0)).length + 1 := by rw [HKE.out, HPN.out, ← HL.out]; unfold plansL; simp
                      rw [hlen, ← HL.out] at h1
                      unfold plansL at h1
                      rw [bestU_all (fun p => planS B pa p pb) _ _ _ (Nat.le_refl _), List.take_of_length_le (Nat.le_refl _)] at h1
                      rw [HPV.out.2.1 hxy1 htl]
                      exact h1
      · have hu0 : U.length = 0 := by
          rcases Nat.eq_zero_or_pos U.length with h | h
          · exact h
          · have := HPOS.out.2 h; omega
        obtain rfl : un = 0 := by have := hown.get.1; omega
        have HBR := Lib.hid (HB1.out.below hbr)
        go_wp2_with fail
        refine (ref_plan (some ⟨bb1, bo1, none⟩) n cb pa pb B none 0 0 [] _ HBR.out ⟨_, _, _, rfl, rfl, Nat.le_refl _, .inl rfl⟩ (by simp) (fun i hi => by simp at hi) (fun i y hi => by simp at hi) hpa hpb hn).mono ?_
        rintro e w2 ⟨v, rfl, hv, hb2⟩
        go_wp2
        go_ret
        exact ⟨_, rfl, by rw [HPV.out.1 hxy1]; exact hv.sl, below_then haccr (Nat.le_trans hsz0 hzr) hb2⟩

end Go.Proofs.Ytmipnikhgihcpaa

