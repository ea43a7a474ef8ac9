/- Contract of fairref.Right. -/
import Derived.Test.YthnjaichbejifaaDyckS
namespace Go.Proofs.Ythnjaichbejifaa
open Go.RowKit
set_option linter.unusedVariables false
set_option linter.unusedSimpArgs false

def brk (l : List Int) : List Int := l.filter fun c => decide (openS c ≠ 0)
theorem brk_take {l : List Int} {k : Nat} (hk : k < l.length) : brk (l.take (k + 1)) = brk (l.take k) ++ (if openS (ix l k) = 0 then [] else [ix l k]) := by
  unfold brk
  rw [List.take_add_one, List.filter_append]
  congr 1
  rw [ix_eq hk, List.getElem?_eq_getElem hk]
  by_cases h : openS l[k] = 0 <;> simp [h]
theorem brk_len (l : List Int) (k : Nat) : (brk (l.take k)).length ≤ k := by
  unfold brk
  refine Nat.le_trans (List.length_filter_le _ _) (by simp; omega)
theorem step_appN {ops : Array Oper} {o : Oper} {a : Act} {K : Act → World → Prop} {Q : Exit → Act → World → Prop} {w : World} {E : Prop} (hw : Region.wanted o (yielded ops a.tmps) = true) (s x : Operand)
    (ho : o.op = .call { callee := .builtin .append, args := #[s, x], argTypes := #[24, 24] })
    (base : Nat) (v : Value) (xs ys : List Int) (ad : Addr) (m c : Nat) (hs : a.eval s = v) (hx : a.eval x = .slice (some ad) m c)
    (hown : Own 3 base w v xs) (hy : Ints w (some ad) ys) (hm : ys.length = m) (hl : xs.length + m ≤ 17592186044416) (hbase : base ≤ w.heap.size)
    (h : ∀ v' w', Own 3 base w' v' (xs ++ ys) → w.grownBy w' v.ownBlock → K (a.put o.dst v') w') :
    if Region.wanted o (yielded ops a.tmps) = true then Oper.wp Try.prog o a w K Q else E := by
  rw [if_pos hw]
  exact wp_appN s x ho base v xs ys ad m c hs hx hown hy hm hl hbase fun v' w' h1 h2 _ => h v' w' h1 h2
def lenV : Value → Nat
  | .slice _ n _ => n
  | _ => 0

theorem runS_away {left : List Int} {q : Nat} (h : q + 1 < left.length) (h1 : ix left q = openS (ix left q)) (h2 : ix left (q + 1) = closeS (ix left q)) (h0 : openS (ix left q) ≠ 0) : runS (left.take q ++ left.drop (q + 2)) [] = runS left [] := by
  have e : left.take q ++ ix left q :: closeS (ix left q) :: left.drop (q + 2) = left := by
    rw [← h2, ix_eq h, ix_eq (show q < left.length by omega)]
    have e1 : left.drop q = left[q] :: left.drop (q + 1) := List.drop_eq_getElem_cons (by omega)
    have e2 : left.drop (q + 1) = left[q + 1] :: left.drop (q + 2) := List.drop_eq_getElem_cons h
    rw [← e2, ← e1, List.take_append_drop]
  have := runS_cut h1 h0 (left.take q) (left.drop (q + 2)) []
  rw [e] at this
  exact this.symm
theorem Own.lenV {e : TypeId} {base : Nat} {w : World} {v : Value} {xs : List Int} (h : Own e base w v xs) : lenV v = xs.length := by
  obtain ⟨a, c, rfl, _⟩ := h.ints; rfl

set_option maxRecDepth 100000 in
set_option maxHeartbeats 1000000 in
theorem ref_right (a : Option Addr) (n c : Nat) (l : List Int) (w : World) (ha : Ints w a l) (hn : l.length = n) (h2 : n ≤ 4096) :
    Calls Try.prog 45 #[.slice a n c] w fun e w' => e = .returned (.bool (rightS l)) ∧ Below w.heap.size w w' := by
  have HN := Lib.hid hn; clear hn
  go_enter Try.func45, Try.ntmps45
  go_wp2
  go_loopw [14, 3] (fun i v wr => ∃ (k : Nat), i = .int .i64 (k : Int) ∧ k ≤ n ∧ Own 3 w.heap.size wr v (brk (l.take k)) ∧ Below w.heap.size w wr) (fun i _ _ => n - (intOf i).toNat)
  case atStart => exact ⟨0, rfl, by omega, Own.nil _ _ _, Below.refl _ _⟩
  case round =>
    obtain ⟨k, rfl, hk, hown, hbel⟩ := hrel
    have hbl := brk_len l k
    by_cases hlt : k < n
    · obtain ⟨b1, o1, rfl, hc0⟩ := ha.at (k := k) (by rw [HN.out]; exact hlt)
      have ck : wr.cell? ⟨b1, o1 + k, none⟩ = some (.int .i64 (ix l k)) := by
        have := hc0 k (by rw [HN.out]; exact hlt)
        rw [hbel.cell (cell_lt this)]; exact this
      have HT := Lib.hid (brk_take (l := l) (k := k) (by rw [HN.out]; exact hlt))
      clear hc0
      by_cases ho : openS (ix l k) = 0
      · have g0 : (openS (ix l k) != 0) = false := by simpa using ho
        have HT2 := Lib.hid (show brk (l.take (k + 1)) = brk (l.take k) by rw [HT.out, if_pos ho]; simp)
        clear HT
        go_wp2_with fail
        refine (ref_bracket (ix l k) wr).mono ?_
        rintro e w2 ⟨rfl, hb2⟩
        have hown2 := hown.kept hb2
        have hb2 := below_then hbel hbel.size hb2
        rw [ho]
        clear ck ho
        go_wp2
        go_roundw
        case rel => exact ⟨k + 1, by go_num, by omega, by rw [HT2.out]; exact hown2, hb2⟩
        case measure => simp [intOf]; omega
      · have g0 : (openS (ix l k) != 0) = true := by simpa using ho
        have HT2 := Lib.hid (show brk (l.take (k + 1)) = brk (l.take k) ++ [ix l k] by rw [HT.out, if_neg ho])
        clear HT
        go_wp2_with fail
        refine (ref_bracket (ix l k) wr).mono ?_
        rintro e w2 ⟨rfl, hb2⟩
        have hown2 := hown.kept hb2
        have hb2 := below_then hbel hbel.size hb2
        have hsz := hb2.size
        clear ck
        go_wp2_with (at_builtin; refine app1 rfl _ _ rfl w.heap.size u3 _ _ _ rfl rfl (hown2.alloc _) (cell_new1 _ _ _) (by omega) (size_alloc_le hb2.size _) ?_; intro v3 w3 hown3 hgrow3)
        go_roundw
        case rel => exact ⟨k + 1, by go_num, by omega, by rw [HT2.out]; exact hown3, (hb2.alloc hb2.size _).grown hgrow3 (by simp; omega) hown2.row⟩
        case measure => simp [intOf]; omega
    · have hst : ∃ left, Own 3 w.heap.size wr u3 left ∧ (∀ c ∈ left, openS c ≠ 0) ∧ runS left [] = runS l [] ∧ left.length ≤ n := by
        refine ⟨_, hown, ?_, ?_, by omega⟩
        · intro c hc; simpa using (List.mem_filter.1 hc).2
        · unfold brk; rw [runS_filter, List.take_of_length_le (by rw [HN.out]; omega)]
      clear hown hbl
      go_wp2
      go_loopw [3] (fun v wr => ∃ left, Own 3 w.heap.size wr v left ∧ (∀ c ∈ left, openS c ≠ 0) ∧ runS left [] = runS l [] ∧ left.length ≤ n ∧ Below w.heap.size w wr) (fun v _ => lenV v)
      case atStart =>
        obtain ⟨left, h1, h3, h4, h5⟩ := hst
        exact ⟨left, h1, h3, h4, h5, hbel⟩
      case round =>
        clear hst hbel
        obtain ⟨left, hown, hbr, hrun, hlen, hbel⟩ := hrel
        obtain ⟨a4, n4, c4, rfl⟩ := hown.form
        have hn4 := hown.get.1
        have hn5 : n4 ≤ n := by omega
        have HB := Lib.hid hbr; have HR := Lib.hid hrun; have HL := Lib.hid hn4
        clear hbr hrun hlen hn4
        go_wp2
        go_loopw [9, 8] (fun i k wr => ∃ (j : Nat) (kk : Int), i = .int .i64 (j : Int) ∧ k = .int .i64 kk ∧ (j ≤ n4) ∧ ((kk = -1 ∧ ∀ q, q < j → q + 1 < n4 → ¬ (ix left q = openS (ix left q) ∧ ix left (q + 1) = closeS (ix left q))) ∨ (∃ q : Nat, kk = q ∧ q + 1 < n4 ∧ ix left q = openS (ix left q) ∧ ix left (q + 1) = closeS (ix left q))) ∧ Own 3 w.heap.size wr (.slice a4 n4 c4) left ∧ Below w.heap.size w wr) (fun i _ _ => n4 - (intOf i).toNat)
        case atStart => exact ⟨0, -1, rfl, rfl, by omega, .inl ⟨rfl, fun q hq => by omega⟩, hown, hbel⟩
        case round =>
          clear hown hbel
          obtain ⟨j, kk, rfl, rfl, hj, hkk, hown, hbel⟩ := hrel
          have HK := Lib.hid hkk; clear hkk
          by_cases hjn : j + 1 < n4
          · obtain ⟨g, n5, c5, hv, f1, f2, f3, f4, f5, f6, hI⟩ := hown.full (by have := HL.out; omega)
            simp only [Value.slice.injEq] at hv
            obtain ⟨rfl, rfl, rfl⟩ := hv
            have cells : ∀ q, q < n4 → wr.cell? ⟨g, q, none⟩ = some (.int .i64 (ix left q)) := fun q hq => by
              obtain ⟨b, o, hb, hc⟩ := hI.at (k := q) (by rw [HL.out]; exact hq)
              simp only [Option.some.injEq, Addr.mk.injEq] at hb
              obtain ⟨rfl, rfl, -⟩ := hb
              have := hc q (by rw [HL.out]; exact hq)
              rwa [Nat.zero_add] at this
            have cj := cells j (by omega)
            have cj1 := cells (j + 1) (by omega)
            clear cells hI f1 f2
            have i1 : ((j : Int) + 1).toNat = j + 1 := by omega
            go_wp2_with fail
            refine (ref_bracket (ix left j) wr).mono ?_
            rintro e w2 ⟨rfl, hb2⟩
            have dj : w2.cell? ⟨g, j, none⟩ = some (.int .i64 (ix left j)) := below_keeps hb2 _ _ cj
            have dj1 : w2.cell? ⟨g, j + 1, none⟩ = some (.int .i64 (ix left (j + 1))) := below_keeps hb2 _ _ cj1
            have hown2 := hown.kept hb2
            have hbel2 := below_then hbel hbel.size hb2
            clear cj cj1 hb2 hown hbel
            by_cases hp : ix left j = openS (ix left j) ∧ ix left (j + 1) = closeS (ix left j)
            · have g1 : (ix left j == openS (ix left j)) = true := by simpa using hp.1
              have g2 : (ix left (j + 1) == closeS (ix left j)) = true := by simpa using hp.2
              have HP := Lib.hid hp; clear hp
              go_wp2
              go_roundw
              case rel => exact ⟨j + 1, j, by go_num, rfl, by omega, .inr ⟨j, rfl, hjn, HP.out⟩, hown2, hbel2⟩
              case measure => simp [intOf]; omega
            · have HP := Lib.hid hp; clear hp
              have hnew : (kk = -1 ∧ ∀ q, q < j + 1 → q + 1 < n4 → ¬ (ix left q = openS (ix left q) ∧ ix left (q + 1) = closeS (ix left q))) ∨ (∃ q : Nat, kk = q ∧ q + 1 < n4 ∧ ix left q = openS (ix left q) ∧ ix left (q + 1) = closeS (ix left q)) := by
                rcases HK.out with ⟨h1, h2⟩ | h
                · refine .inl ⟨h1, fun q hq hq2 => ?_⟩
                  rcases Nat.lt_succ_iff_lt_or_eq.1 hq with h | rfl
                  · exact h2 q h hq2
                  · exact HP.out
                · exact .inr h
              have HN2 := Lib.hid hnew; clear hnew
              have hw : (ix left j == openS (ix left j)) = false ∨ (ix left j == openS (ix left j)) = true ∧ (ix left (j + 1) == closeS (ix left j)) = false := by
                have := HP.out
                by_cases h1 : ix left j = openS (ix left j)
                · refine .inr ⟨by simpa using h1, ?_⟩
                  simpa using fun h2 => this ⟨h1, h2⟩
                · exact .inl (by simpa using h1)
              rcases hw with g1 | ⟨g1, g2⟩
              all_goals
                go_wp2
                go_roundw
                case rel => exact ⟨j + 1, kk, by go_num, rfl, by omega, HN2.out, hown2, hbel2⟩
                case measure => simp [intOf]; omega
          · have i0 : ¬ (j : Int) + 1 < (n4 : Int) := by omega
            rcases HK.out with ⟨rfl, hno⟩ | ⟨q, rfl, hq, hp1, hp2⟩
            · have HF := Lib.hid (show rightS l = decide ((n4 : Int) = 0) by
                unfold rightS
                rw [← HR.out]
                by_cases hz : n4 = 0
                · have : left = [] := List.eq_nil_of_length_eq_zero (by rw [HL.out]; exact hz)
                  subst this; subst hz; rfl
                · have hne : left ≠ [] := by rintro rfl; exact hz (by rw [← HL.out]; rfl)
                  have := noAdj_stuck left (noAdj_of_ix left fun i hi => hno i (by rw [HL.out] at hi; omega) (by rw [HL.out] at hi; exact hi)) HB.out hne
                  rw [show decide ((n4 : Int) = 0) = false from by simp; omega]
                  simpa using this)
              clear HK hno
              go_wp2
              go_ret
              exact ⟨ret1_bool (by rw [HF.out]; rw [Bool.eq_iff_iff]; simp), hbel⟩
            · clear HK
              obtain ⟨g, n5, c5, hv, f1, f2, f3, f4, f5, f6, hI⟩ := hown.full (by have := HL.out; omega)
              simp only [Value.slice.injEq] at hv
              obtain ⟨rfl, rfl, rfl⟩ := hv
              have hT := hI.take q
              have hD := hI.drop (q + 2)
              rw [Nat.zero_add] at hD
              have l1 : (left.take q).length = q := by have := HL.out; simp; omega
              have l2 : (left.drop (q + 2)).length = n4 - (q + 2) := by have := HL.out; simp; omega
              have L1 := Lib.hid l1; have L2 := Lib.hid l2; clear l1 l2 f1 f2
              have i1 : ((q : Int) + 2).toNat = q + 2 := by omega
              have i2 : (q : Int) + 2 ≤ (n4 : Int) := by omega
              have i3 : (0 : Int) ≤ (q : Int) + 2 := by omega
              have i4 : (q : Int) ≤ (c4 : Int) := by omega
              have i5 : IntKind.i64.wrap ((q : Int) + 2) = (q : Int) + 2 := IntWalk.i64_in _ (by omega)
              have HP := Lib.hid hp1; have HP2 := Lib.hid hp2; clear hp1 hp2 hown
              by_cases hcap : c4 = q + 2
              · subst hcap
                obtain rfl : n4 = q + 2 := by omega
                have hnil : left.drop (q + 2) = [] := List.drop_eq_nil_of_le (by rw [HL.out]; omega)
                have HNIL := Lib.hid hnil; clear hnil L2
                clear i1 i2 i3 i4
                have i1 : ((q : Int) + 2).toNat = q + 2 := by omega
                have i4 : (q : Int) ≤ (q : Int) + 2 := by omega
                have i7 : (0 : Int) ≤ (q : Int) := by omega
                have i3 : (0 : Int) ≤ (q : Int) + 2 := by omega
                have i8 : q ≤ q + 2 := by omega
                go_wp2_with fail
                go_region_held3 (fun w' => Below wr.heap.size wr w') (first | exact (Below.refl _ _).drew | assumption | exact below_then ‹_› (Below.size ‹_›) ‹_›)
                  (first | (go_at_call 22; refine (slices_clone (some ⟨g, 0, none⟩) q (q + 2) (left.take q) _ (hT.below ‹_›) L1.out (by omega) (by simp)).mono ?_; rintro e w8 ⟨v8, rfl, o8, hbel8⟩; have hz8 : wr.heap.size ≤ _ := Below.size ‹Below wr.heap.size wr _›; have hS8 : Below wr.heap.size wr w8 := below_then (by assumption) (Below.size (by assumption)) hbel8) | (refine step_appN (by rfl) _ _ rfl _ _ _ [] _ _ _ rfl rfl o8 (Ints.nil _ _) (by simp) (by rw [L1.out]; simp; omega) hbel8.size ?_; intro v9 w9 o9 hgrow9; have hS9 : Below wr.heap.size wr w9 := hS8.grown hgrow9 hS8.size (fun k hk => Nat.le_trans hz8 (o8.row k hk))))
                all_goals
                  have hlen9 := o9.lenV
                  rw [← HNIL.out] at o9 hlen9
                  have hlx : (left.take q ++ left.drop (q + 2)).length + 2 = q + 2 := by have := HL.out; simp; omega
                  go_wp2
                  go_roundw
                  case rel =>
                    refine ⟨left.take q ++ left.drop (q + 2), o9.mono (Nat.le_trans hbel.size hz8), ?_, ?_, by omega, below_then hbel hbel.size hS9⟩
                    · intro c hc
                      rcases List.mem_append.1 hc with h | h
                      · exact HB.out c (List.mem_of_mem_take h)
                      · exact HB.out c (List.mem_of_mem_drop h)
                    · rw [← HR.out]
                      exact runS_away (by rw [HL.out]; exact hq) HP.out HP2.out (HB.out _ (by rw [ix_eq (show q < left.length by rw [HL.out]; omega)]; exact List.getElem_mem _))
                  case measure => show lenV v9 < q + 2; omega
              · go_wp2_with fail
                go_region_held3 (fun w' => Below wr.heap.size wr w') (first | exact (Below.refl _ _).drew | assumption | exact below_then ‹_› (Below.size ‹_›) ‹_›)
                  (first | (go_at_call 22; refine (slices_clone (some ⟨g, 0, none⟩) q c4 (left.take q) _ (hT.below ‹_›) L1.out (by omega) (by simp)).mono ?_; rintro e w8 ⟨v8, rfl, o8, hbel8⟩; have hz8 : wr.heap.size ≤ _ := Below.size ‹Below wr.heap.size wr _›; have hS8 : Below wr.heap.size wr w8 := below_then (by assumption) (Below.size (by assumption)) hbel8) | (refine step_appN (by rfl) _ _ rfl _ _ _ (left.drop (q + 2)) ⟨g, q + 2, none⟩ (n4 - (q + 2)) (c4 - (q + 2)) rfl rfl o8 (hD.below ‹_›) L2.out (by rw [L1.out]; omega) hbel8.size ?_; intro v9 w9 o9 hgrow9; have hS9 : Below wr.heap.size wr w9 := hS8.grown hgrow9 hS8.size (fun k hk => Nat.le_trans hz8 (o8.row k hk))))
                all_goals
                  have hlen9 := o9.lenV
                  have hlx : (left.take q ++ left.drop (q + 2)).length + 2 = n4 := by have := HL.out; simp; omega
                  go_wp2
                  go_roundw
                  case rel =>
                    refine ⟨left.take q ++ left.drop (q + 2), o9.mono (Nat.le_trans hbel.size hz8), ?_, ?_, by omega, below_then hbel hbel.size hS9⟩
                    · intro c hc
                      rcases List.mem_append.1 hc with h | h
                      · exact HB.out c (List.mem_of_mem_take h)
                      · exact HB.out c (List.mem_of_mem_drop h)
                    · rw [← HR.out]
                      exact runS_away (by rw [HL.out]; exact hq) HP.out HP2.out (HB.out _ (by rw [ix_eq (show q < left.length by rw [HL.out]; omega)]; exact List.getElem_mem _))
                  case measure => show lenV v9 < n4; omega

end Go.Proofs.Ythnjaichbejifaa
