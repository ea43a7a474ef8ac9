/- Contracts of slices.Grow (of nil) and slices.Concat at int. -/
import Derived.Test.YtmipnikhgihcpaaSlib
import Derived.Lib.AppendZeros
namespace Go.Proofs.Ytmipnikhgihcpaa
open Go.RowKit
set_option linter.unusedVariables false
set_option linter.unusedSimpArgs false

theorem run_app_nilx (w : World) (ty : TypeId) (v : Value) (xs : List Int) (base c2 : Nat) (hown : Own 3 base w v xs) (hl : xs.length ≤ 17592186044416) :
    (Builtin.append_ #[22, 22] ty #[v, .slice none 0 c2]).run Try.prog w = .ok v w := by
  obtain ⟨i0, hi, hz0, hz1, hz2⟩ := info_parts info_int
  rcases hown.2 with ⟨rfl, h0⟩ | ⟨g, cap, cur, rfl, hb, hg, hn, hm, hs, ht⟩
  · simp [Builtin.append_, run_underlying Try.underlying22, sizeOf, typeInfo, hi, Builtin.lenOf, Builtin.firstCells, loadCells, loadCellsFrom, storeCells]
  · simp [Builtin.append_, run_underlying Try.underlying22, sizeOf, typeInfo, hi, Builtin.lenOf, Builtin.firstCells, loadCells, loadCellsFrom, storeCells, hn]

theorem appV {ops : Array Oper} {rest : List Oper} {o : Oper} {a : Act} {Q : Exit → Act → World → Prop} {w : World} (hgd : o.guard = none) (s x : Operand)
    (ho : o.op = .call { callee := .builtin .append, args := #[s, x], argTypes := #[22, 22] })
    (base : Nat) (v : Value) (xs ys : List Int) (ad : Option Addr) (m c : Nat) (hs : a.eval s = v) (hx : a.eval x = .slice ad m c)
    (hown : Own 3 base w v xs) (hy : Ints w ad ys) (hm : ys.length = m) (h0 : ad = none → m = 0) (hl : xs.length + m ≤ 17592186044416) (hbase : base ≤ w.heap.size)
    (h : ∀ v' w', Own 3 base w' v' (xs ++ ys) → w.grownBy w' v.ownBlock → wpList Try.prog ops Q rest (a.put o.dst v') w') :
    wpList Try.prog ops Q (o :: rest) a w := by
  rcases ad with _ | ad
  · obtain rfl : m = 0 := h0 rfl
    obtain rfl : ys = [] := List.eq_nil_of_length_eq_zero hm
    refine Lib.wpList_append_run w hgd s x _ _ ho v (.slice none 0 c) hs hx v w (run_app_nilx w _ v xs base c hown (by omega)) ?_
    exact h v w (by simpa using hown) ⟨rfl, rfl, rfl, Nat.le_refl _, fun _ _ _ => rfl⟩
  · exact appN hgd s x ho base v xs ys ad m c hs hx hown hy hm hl hbase fun v' w' h1 h2 _ => h v' w' h1 h2

def GrowPost (w : World) (e : Ending) (w' : World) : Prop := ∃ v, e = .returned v ∧ Own 3 w.heap.size w' v [] ∧ Below w.heap.size w w'

set_option maxRecDepth 100000 in
theorem slices_grow_nil (n : Nat) (w : World) (hn : n ≤ 17592186044416) :
    Calls Try.prog 117 #[.slice none 0 0, .int .i64 (n : Int)] w (GrowPost w) := by
  by_cases h0 : n = 0
  · subst h0
    go_enter Try.func117, Try.ntmps117
    go_wp2
    go_ret
    exact ⟨_, rfl, Own.nil _ _ _, Below.refl _ _⟩
  · obtain ⟨i0, hi, hz0, hz1, hz2⟩ := info_parts info_int
    have hr := fun ty => Lib.run_append_nil_zeros (P := Try.prog) w 22 3 ty 3 i0 (.int .i64 0) .i64 .i64 Try.underlying22 Try.underlying3 hi hz0 n (by omega) (by rw [hz1]; omega) (by omega) (by rw [hz2]; omega)
    obtain ⟨G, hG⟩ : ∃ G, grownCap w n 0 3 = G := ⟨_, rfl⟩
    have hg1 : n ≤ G := by rw [← hG]; exact grownCap_ge _ _ _ _
    have hg2 : G ≤ maxLen := by rw [← hG]; exact grownCap_le_maxLen _ _ _ _ (by unfold maxLen; omega)
    rw [hG] at hr
    have hg3 : G ≤ 9223372036854775807 := by unfold maxLen at hg2; omega
    obtain ⟨cs, hcs⟩ : ∃ cs, Builtin.zeroCells (Value.int .i64 0).cells n ++ Builtin.zeroCells (Value.int .i64 0).cells (G - n) = cs := ⟨_, rfl⟩
    have hsz : cs.size = G := by rw [← hcs, Array.size_append, size_zeroCells, size_zeroCells]; simp [Value.cells]; omega
    rw [hcs] at hr
    have HS := Lib.hid hsz
    clear hG hcs hsz
    have hn0 : 0 < n := by omega
    go_enter Try.func117, Try.ntmps117
    go_wp2_with (at_builtin; refine Lib.wpList_append_run _ rfl _ _ _ _ rfl _ _ rfl rfl _ _ (hr _) ?_)
    go_ret
    refine ⟨_, rfl, ⟨by simp, .inr ⟨w.heap.size, G, cs, rfl, Nat.le_refl _, heap_alloc_new w.drew _, by simp, hg2, by rw [HS.out]; omega, by simp⟩⟩, (Below.refl _ _).drew.alloc (Nat.le_refl _) _⟩

/-- the lists X 0, .., X (m - 1) behind one another -/
def joinX (X : Nat → List Int) : Nat → List Int
  | 0 => []
  | k + 1 => joinX X k ++ X k
def CatPost (xs : List Int) (w : World) (e : Ending) (w' : World) : Prop := ∃ v, e = .returned v ∧ Own 3 w.heap.size w' v xs ∧ Below w.heap.size w w'

structure CatIn (w : World) (B m : Nat) (A : Nat → Option Addr) (N C : Nat → Nat) (X : Nat → List Int) : Prop where
  cell : ∀ i, i < m → w.cell? ⟨B, i, none⟩ = some (.slice (A i) (N i) (C i))
  ints : ∀ i, i < m → Ints w (A i) (X i)
  len : ∀ i, i < m → (X i).length = N i
  top : ∀ i, i < m → N i ≤ 1048576
  none : ∀ i, i < m → A i = none → N i = 0
theorem CatIn.keep {w w' : World} {B m : Nat} {A : Nat → Option Addr} {N C : Nat → Nat} {X : Nat → List Int} (h : CatIn w B m A N C X) (hb : Below w.heap.size w w') : CatIn w' B m A N C X :=
  ⟨fun i hi => below_keeps hb _ _ (h.cell i hi), fun i hi => (h.ints i hi).below hb, h.len, h.top, h.none⟩
theorem CatIn.sum {w : World} {B m : Nat} {A : Nat → Option Addr} {N C : Nat → Nat} {X : Nat → List Int} (h : CatIn w B m A N C X) (k : Nat) (hk : k ≤ m) : (joinX X k).length ≤ 1048576 * k := by
  induction k with
  | zero => simp [joinX]
  | succ k ih =>
    have := ih (by omega)
    have h1 := h.len k (by omega)
    have h2 := h.top k (by omega)
    simp only [joinX, List.length_append]; omega

set_option maxRecDepth 100000 in
set_option maxHeartbeats 1000000 in
theorem slices_concat (B m : Nat) (A : Nat → Option Addr) (N C : Nat → Nat) (X : Nat → List Int) (w : World) (h : CatIn w B m A N C X) (hm : m ≤ 8) :
    Calls Try.prog 46 #[.slice (some ⟨B, 0, none⟩) m m] w (CatPost (joinX X m) w) := by
  have H := Lib.hid h; clear h
  go_enter Try.func46, Try.ntmps46
  go_wp2
  go_loopw [11, 3] (fun i s wr => ∃ k : Nat, i = .int .i64 (k : Int) ∧ s = .int .i64 ((joinX X k).length : Int) ∧ k ≤ m ∧ w = wr) (fun i _ _ => m - (intOf i).toNat)
  case atStart => exact ⟨0, rfl, rfl, by omega, rfl⟩
  case round =>
    obtain ⟨k, rfl, rfl, hk, rfl⟩ := hrel
    have hs := H.out.sum k hk
    by_cases hlt : k < m
    · have ck := H.out.cell k hlt
      have hN := H.out.top k hlt
      have HL := Lib.hid (show ((joinX X (k + 1)).length : Int) = ((joinX X k).length : Int) + (N k : Int) by simp [joinX, H.out.len k hlt])
      have i1 : (k : Int) < (m : Int) := by omega
      go_wp2
      go_roundw
      case rel => exact ⟨k + 1, by go_num, by rw [HL.out], by omega, by first | rfl | trivial⟩
      case measure => simp [intOf]; omega
    · obtain rfl : m = k := by omega
      go_wp2_with fail
      refine (slices_grow_nil (joinX X m).length w (by omega)).mono ?_
      rintro e w2 ⟨v, rfl, hown, hb2⟩
      have h2 := H.out.keep hb2
      have H2 := Lib.hid h2
      clear h2
      go_wp2
      go_loopw [27, 6] (fun i u wr => ∃ k : Nat, i = .int .i64 (k : Int) ∧ k ≤ m ∧ Own 3 w.heap.size wr u (joinX X k) ∧ Below w.heap.size w wr) (fun i _ _ => m - (intOf i).toNat)
      case atStart => exact ⟨0, rfl, by omega, hown, hb2⟩
      case round =>
        clear hs hlt hk
        obtain ⟨k, rfl, hk, hown3, hb3⟩ := hrel
        have hs := H.out.sum k hk
        by_cases hlt : k < m
        · have h3 := H.out.keep hb3
          have ck := h3.cell k hlt
          have hN := h3.top k hlt
          have hI := h3.ints k hlt
          have HNk := Lib.hid (h3.len k hlt)
          have H0 := Lib.hid (h3.none k hlt)
          have HJ := Lib.hid (show joinX X (k + 1) = joinX X k ++ X k from rfl)
          have i1 : (k : Int) < (m : Int) := by omega
          have hrow := hown3.row
          have hsz := hb3.size
          clear h3
          go_wp2_with (at_builtin; refine appV rfl _ _ rfl w.heap.size u6 _ _ _ _ _ rfl rfl hown3 hI HNk.out H0.out (by omega) hsz ?_; intro v4 w4 hown4 hgrow4)
          go_roundw
          case rel => exact ⟨k + 1, by go_num, by omega, by rw [HJ.out]; exact hown4, hb3.grown hgrow4 hb3.size hrow⟩
          case measure => simp [intOf]; omega
        · obtain rfl : m = k := by omega
          go_wp2
          go_ret
          exact ⟨_, rfl, hown3, hb3⟩

theorem CatIn.drew {w : World} {B m : Nat} {A : Nat → Option Addr} {N C : Nat → Nat} {X : Nat → List Int} (h : CatIn w B m A N C X) : CatIn w.drew B m A N C X :=
  ⟨h.cell, fun i hi => (h.ints i hi).drew, h.len, h.top, h.none⟩
def sel3 {α : Type} (x y z : α) (i : Nat) : α := if i = 0 then x else if i = 1 then y else z
theorem catIn3 (w : World) (T : TypeId) {a0 a1 a2 : Option Addr} {n0 n1 n2 : Nat} (c0 c1 c2 : Nat) {x0 x1 x2 : List Int} (i0 : Ints w a0 x0) (i1 : Ints w a1 x1) (i2 : Ints w a2 x2) (l0 : x0.length = n0) (l1 : x1.length = n1) (l2 : x2.length = n2)
    (t0 : n0 ≤ 1048576) (t1 : n1 ≤ 1048576) (t2 : n2 ≤ 1048576) (z0 : a0 = none → n0 = 0) (z1 : a1 = none → n1 = 0) (z2 : a2 = none → n2 = 0) :
    CatIn (w.alloc (.cells #[.slice a0 n0 c0, .slice a1 n1 c1, .slice a2 n2 c2] T)) w.heap.size 3 (sel3 a0 a1 a2) (sel3 n0 n1 n2) (sel3 c0 c1 c2) (sel3 x0 x1 x2) := by
  obtain ⟨y0, y1, y2, -⟩ := Blk.three (Blk.new w #[.slice a0 n0 c0, .slice a1 n1 c1, .slice a2 n2 c2] T)
  have hb := below1 w (.cells #[.slice a0 n0 c0, .slice a1 n1 c1, .slice a2 n2 c2] T)
  refine ⟨fun i hi => ?_, fun i hi => ?_, fun i hi => ?_, fun i hi => ?_, fun i hi => ?_⟩
  all_goals obtain rfl | rfl | rfl : i = 0 ∨ i = 1 ∨ i = 2 := by omega
  · exact y0
  · exact y1
  · exact y2
  · exact i0.below hb
  · exact i1.below hb
  · exact i2.below hb
  · exact l0
  · exact l1
  · exact l2
  · exact t0
  · exact t1
  · exact t2
  · exact z0
  · exact z1
  · exact z2
theorem joinX3 (x0 x1 x2 : List Int) : joinX (sel3 x0 x1 x2) 3 = x0 ++ x1 ++ x2 := by simp [joinX, sel3]
theorem catIn2 (w : World) (T : TypeId) {a0 a1 : Option Addr} {n0 n1 : Nat} (c0 c1 : Nat) {x0 x1 : List Int} (i0 : Ints w a0 x0) (i1 : Ints w a1 x1) (l0 : x0.length = n0) (l1 : x1.length = n1)
    (t0 : n0 ≤ 1048576) (t1 : n1 ≤ 1048576) (z0 : a0 = none → n0 = 0) (z1 : a1 = none → n1 = 0) :
    CatIn (w.alloc (.cells #[.slice a0 n0 c0, .slice a1 n1 c1] T)) w.heap.size 2 (sel3 a0 a1 a1) (sel3 n0 n1 n1) (sel3 c0 c1 c1) (sel3 x0 x1 x1) := by
  obtain ⟨y0, y1, -, -⟩ := Blk.two (Blk.new w #[.slice a0 n0 c0, .slice a1 n1 c1] T)
  have hb := below1 w (.cells #[.slice a0 n0 c0, .slice a1 n1 c1] T)
  refine ⟨fun i hi => ?_, fun i hi => ?_, fun i hi => ?_, fun i hi => ?_, fun i hi => ?_⟩
  all_goals obtain rfl | rfl : i = 0 ∨ i = 1 := by omega
  · exact y0
  · exact y1
  · exact i0.below hb
  · exact i1.below hb
  · exact l0
  · exact l1
  · exact t0
  · exact t1
  · exact z0
  · exact z1
theorem joinX2 (x0 x1 x2 : List Int) : joinX (sel3 x0 x1 x2) 2 = x0 ++ x1 := by simp [joinX, sel3]
theorem Ints.dropA {w : World} {ad : Addr} {xs : List Int} (h : Ints w (some ad) xs) (k : Nat) : Ints w (some (ad.add k)) (xs.drop k) := by
  rcases h with h | ⟨b', o', ha, h⟩
  · subst h; exact .inl (by simp)
  · have h2 : Ints w (some ⟨b', o', none⟩) xs := .inr ⟨b', o', rfl, h⟩
    simp only [Option.some.injEq] at ha
    subst ha
    have hadd : (⟨b', o', none⟩ : Addr).add k = ⟨b', o' + k, none⟩ := by unfold Addr.add; split <;> simp_all
    rw [hadd]; exact h2.drop k

end Go.Proofs.Ytmipnikhgihcpaa
