/- Contract of near.Far. -/
import Derived.Test.YtmipnikhgihcpaaNearP
import Derived.Test.YtmipnikhgihcpaaRow
import Derived.Deep.DeepCutAuto
import Derived.Deep.CutBlock
import Derived.Deep.RegionHeld3
import Derived.Deep.RegionLaw
namespace Go.Proofs.Ytmipnikhgihcpaa
open Go.RowKit
set_option linter.unusedVariables false
set_option linter.unusedSimpArgs false

def FarPost (d er : Int) (w : World) (e : Ending) (w' : World) : Prop := e = .returned (.tuple #[.int .i64 d, .int .i64 er]) ∧ Below w.heap.size w w'
/-- the row between: its first places new, the others old -/
def farRow (a b : List Int) (i j : Nat) : List Int := (List.range (b.length + 1)).map fun q => if q ≤ j then (far a b (i + 1) q : Int) else (far a b i q : Int)
def farOld (a b : List Int) (i : Nat) : List Int := (List.range (b.length + 1)).map fun q => (far a b i q : Int)
theorem ix_range {n : Nat} {f : Nat → Int} {q : Nat} (h : q < n) : ix ((List.range n).map f) q = f q := by
  unfold ix
  rw [List.getD_eq_getElem?_getD, List.getElem?_map, List.getElem?_range h]; rfl
theorem farOld_len (a b : List Int) (i : Nat) : (farOld a b i).length = b.length + 1 := by simp [farOld]
theorem farRow_len (a b : List Int) (i j : Nat) : (farRow a b i j).length = b.length + 1 := by simp [farRow]
theorem farRow_old {a b : List Int} {i j q : Nat} (h : q < b.length + 1) (hj : j < q) : ix (farRow a b i j) q = (far a b i q : Int) := by
  rw [farRow, ix_range h, if_neg (by omega)]
theorem farRow_new {a b : List Int} {i j q : Nat} (h : q < b.length + 1) (hj : q ≤ j) : ix (farRow a b i j) q = (far a b (i + 1) q : Int) := by
  rw [farRow, ix_range h, if_pos hj]
theorem farOld_zero {a b : List Int} {i : Nat} (h : i ≤ a.length) : ix (farOld a b i) 0 = (i : Int) := by
  rw [farOld, ix_range (by omega), far_zero_right _ _ _ h]
theorem farRow_first {a b : List Int} {i : Nat} (h : i < a.length) : (farOld a b i).set 0 ((i : Int) + 1) = farRow a b i 0 := by
  refine ix_ext (by simp [farOld, farRow]) fun q hq => ?_
  rw [List.length_set, farOld_len] at hq
  by_cases e : q = 0
  · subst e
    rw [ixSetEq (by rw [farOld_len]; omega), farRow_new (by omega) (Nat.le_refl _), far_zero_right _ _ _ h]; rfl
  · rw [ixSetNe (fun h => e h.symm), farRow_old hq (by omega), farOld, ix_range hq]
theorem farRow_next {a b : List Int} {i j : Nat} : (farRow a b i j).set (j + 1) (far a b (i + 1) (j + 1) : Int) = farRow a b i (j + 1) := by
  refine ix_ext (by simp [farRow]) fun q hq => ?_
  rw [List.length_set, farRow_len] at hq
  by_cases e : q = j + 1
  · subst e
    rw [ixSetEq (by rw [farRow_len]; omega), farRow_new hq (Nat.le_refl _)]
  · rw [ixSetNe (fun h => e h.symm)]
    by_cases h : q ≤ j
    · rw [farRow_new hq h, farRow_new hq (by omega)]
    · rw [farRow_old hq (by omega), farRow_old hq (by omega)]
theorem farRow_last (a b : List Int) (i : Nat) : farRow a b i b.length = farOld a b (i + 1) := by
  refine ix_ext (by simp [farOld, farRow]) fun q hq => ?_
  rw [farRow_len] at hq
  rw [farRow_new hq (by omega), farOld, ix_range hq]
/-- the count of places, at the beginning -/
def upTo (n k : Nat) : List Int := (List.range n).map fun q => if q < k then (q : Int) else 0
theorem upTo_zero (n : Nat) : upTo n 0 = List.replicate n 0 := by
  refine ix_ext (by simp [upTo]) fun q hq => ?_
  have h : q < n := by simpa [upTo] using hq
  rw [upTo, ix_range h, if_neg (by omega)]
  unfold ix
  rw [List.getD_eq_getElem?_getD, List.getElem?_replicate, if_pos h]; rfl
theorem upTo_len (n k : Nat) : (upTo n k).length = n := by simp [upTo]
theorem upTo_next {n k : Nat} (h : k < n) : (upTo n k).set k (k : Int) = upTo n (k + 1) := by
  refine ix_ext (by simp [upTo]) fun q hq => ?_
  rw [List.length_set, upTo_len] at hq
  by_cases e : q = k
  · subst e; rw [ixSetEq (by rw [upTo_len]; exact hq), upTo, ix_range hq, if_pos (by omega)]
  · rw [ixSetNe (fun h => e h.symm), upTo, upTo, ix_range hq, ix_range hq]
    by_cases g : q < k
    · rw [if_pos g, if_pos (by omega)]
    · rw [if_neg g, if_neg (by omega)]
theorem upTo_all (a b : List Int) : upTo (b.length + 1) (b.length + 1) = farOld a b 0 := by
  refine ix_ext (by simp [upTo, farOld]) fun q hq => ?_
  rw [upTo_len] at hq
  rw [upTo, farOld, ix_range hq, ix_range hq, if_pos hq, far_zero_left _ _ _ (by omega)]

theorem farPut {xs ys : List Int} {k v : Nat} {w : World} {g : Nat} {T : TypeId} {z : Int} (h : xs.set k (v : Int) = ys) (hB : Blk w g (xs.map (Value.int .i64)).toArray T) (hz : z = (v : Int)) : Blk (w.setCell ⟨g, k, none⟩ (.int .i64 z)) g (ys.map (Value.int .i64)).toArray T := by
  subst hz; subst h; exact rowSet hB k _

set_option maxRecDepth 100000 in
set_option maxHeartbeats 2000000 in
theorem near_far (a1 a2 : Option Addr) (m n c1 c2 : Nat) (a b : List Int) (w : World) (ha : Ints w a1 a) (hb : Ints w a2 b) (hm : a.length = m) (hn : b.length = n) (h1 : m ≤ 200) (h2 : n ≤ 200) :
    Calls Try.prog 67 #[.slice a1 m c1, .slice a2 n c2] w (FarPost (dst a b : Int) 0 w) := by
  have HM := Lib.hid hm; have HN := Lib.hid hn
  have hmk := make_int (n + 1) (n + 1) (Nat.le_refl _) (by omega)
  rw [show ((n + 1 : Nat) : Int) = (n : Int) + 1 from rfl] at hmk
  have HD := Lib.hid (dst_far a b)
  rw [hm, hn] at HD
  clear hm hn
  go_enter Try.func67, Try.ntmps67
  go_wp2
  clear hmk
  go_loopw [28] (fun i wr => ∃ k : Nat, i = .int .i64 (k : Int) ∧ k ≤ n + 1 ∧ Blk wr w.heap.size ((upTo (n + 1) k).map (Value.int .i64)).toArray 3 ∧ Below w.heap.size w wr) (fun i _ => n + 1 - (intOf i).toNat)
  case atStart =>
    refine ⟨0, rfl, by omega, ?_, below1 _ _⟩
    rw [upTo_zero, ← madeRow (n + 1)]; exact Blk.new _ _ _
  case round =>
    obtain ⟨k, rfl, hk, hB, hbel⟩ := hrel
    by_cases hlt : k < n + 1
    · have cf := hB.free k
      have co := rowCell hB (i := k) (by rw [upTo_len]; exact hlt)
      have hk0 : (0 : Int) ≤ (k : Int) := by omega
      have hkn : (k : Int) < (n : Int) + 1 := by omega
      go_wp2
      go_roundw
      case rel => exact ⟨k + 1, by go_num, by omega, by rw [← upTo_next hlt]; exact rowSet hB k _, hbel.setCell (p := ⟨w.heap.size, k, none⟩) (Nat.le_refl _) _⟩
      case measure => simp [intOf]; omega
    · obtain rfl : k = n + 1 := by omega
      have hB0 : Blk wr w.heap.size ((farOld a b 0).map (Value.int .i64)).toArray 3 := by
        have := upTo_all a b
        rw [HN.out] at this
        rw [← this]; exact hB
      have HT := Lib.hid hB0; have HX := Lib.hid hbel
      clear hB hB0 hbel hk hlt
      go_wp2
      generalize wr = wz at *
      go_loopw [38] (fun i wr => ∃ k : Nat, i = .int .i64 (k : Int) ∧ k ≤ m ∧ Blk wr w.heap.size ((farOld a b k).map (Value.int .i64)).toArray 3 ∧ Below w.heap.size w wr) (fun i _ => m - (intOf i).toNat)
      case atStart => exact ⟨0, rfl, by omega, HT.out, HX.out⟩
      case round =>
        clear HT HX
        obtain ⟨i, rfl, hi, hB, hbel⟩ := hrel
        by_cases hlt : i < m
        · have hia : i < a.length := by rw [HM.out]; exact hlt
          obtain ⟨b1, o1, rfl, hc0⟩ := ha.at hia
          have ca := hc0 i hia
          have ca' : wr.cell? ⟨b1, o1 + i, none⟩ = some (.int .i64 (ix a i)) := by rw [hbel.cell (cell_lt ca)]; exact ca
          have HA := Lib.hid (show Ints w (some ⟨b1, o1, none⟩) a from ha)
          have co := rowCell hB (i := 0) (by rw [farOld_len]; omega)
          rw [farOld_zero (Nat.le_of_lt hia)] at co
          have cf := hB.free 0
          have HIA := Lib.hid hia
          clear hc0 ca ha hia
          have hi0 : (0 : Int) ≤ (i : Int) := by omega
          have him : (i : Int) < (m : Int) := by omega
          have hn1 : (0 : Int) < (n : Int) + 1 := by omega
          go_upto_region 14 with fail
          have hB0 : Blk (wr.setCell ⟨w.heap.size, 0, none⟩ (.int .i64 ((i : Int) + 1))) w.heap.size ((farRow a b i 0).map (Value.int .i64)).toArray 3 := by
            rw [← farRow_first HIA.out]; exact rowSet hB 0 _
          have hbel0 := hbel.setCell (p := ⟨w.heap.size, 0, none⟩) (Nat.le_refl _) (.int .i64 ((i : Int) + 1))
          generalize wr.setCell ⟨w.heap.size, 0, none⟩ (.int .i64 ((i : Int) + 1)) = wy at *
          have HB0 := Lib.hid hB0; have HL0 := Lib.hid hbel0
          clear hB hbel co cf ca' hB0 hbel0
          go_wp2
          go_loopw [52, 10] (fun x y wr => ∃ j : Nat, x = .int .i64 (j : Int) ∧ y = .int .i64 (far a b i j : Int) ∧ j ≤ n ∧ Blk wr w.heap.size ((farRow a b i j).map (Value.int .i64)).toArray 3 ∧ Below w.heap.size w wr) (fun x _ _ => n - (intOf x).toNat)
          case atStart => exact ⟨0, rfl, by rw [far_zero_right _ _ _ (by rw [HM.out]; omega)], by omega, HB0.out, HL0.out⟩
          case round =>
            clear HB0 HL0
            obtain ⟨j, rfl, rfl, hj, hB, hbel⟩ := hrel
            by_cases hjn : j < n
            · have hjb : j < b.length := by rw [HN.out]; exact hjn
              obtain ⟨b2, o2, rfl, hc0⟩ := hb.at hjb
              have cb := hc0 j hjb
              have cb' : wr.cell? ⟨b2, o2 + j, none⟩ = some (.int .i64 (ix b j)) := by rw [hbel.cell (cell_lt cb)]; exact cb
              have HBX := Lib.hid (show Ints w (some ⟨b2, o2, none⟩) b from hb)
              have cn := rowCell hB (i := j) (by rw [farRow_len]; omega)
              rw [farRow_new (by omega) (Nat.le_refl _)] at cn
              have co := rowCell hB (i := j + 1) (by rw [farRow_len]; omega)
              rw [farRow_old (by omega) (Nat.lt_succ_self _)] at co
              have cf := hB.free (j + 1)
              have HST := Lib.hid (far_step (a := a) (b := b) (i := i) (j := j) HIA.out hjb)
              have HRN := Lib.hid (farRow_next (a := a) (b := b) (i := i) (j := j))
              have t1 := far_top a b i j; have t2 := far_top a b i (j + 1); have t3 := far_top a b (i + 1) j
              obtain ⟨p, hp⟩ : ∃ p, far a b i j = p := ⟨_, rfl⟩
              obtain ⟨q, hq⟩ : ∃ q, far a b i (j + 1) = q := ⟨_, rfl⟩
              obtain ⟨r, hr⟩ : ∃ r, far a b (i + 1) j = r := ⟨_, rfl⟩
              obtain ⟨v, hv⟩ : ∃ v, far a b (i + 1) (j + 1) = v := ⟨_, rfl⟩
              rw [hp, hq, hr, hv] at HST
              rw [hv] at HRN
              rw [hp] at t1 ⊢
              rw [hq] at t2 co
              rw [hr] at t3 cn
              have HQ := Lib.hid hq
              have hB' := Lib.hid hB
              clear hc0 cb hb hjb hp hq hr hv hB
              have hj0 : (0 : Int) ≤ (j : Int) := by omega
              have hjm : (j : Int) < (n : Int) := by omega
              have ej : ((j : Int) + 1).toNat = j + 1 := by omega
              have p1 : (p : Int) ≤ 400 := by omega
              have q1 : (q : Int) ≤ 401 := by omega
              have r1 : (r : Int) ≤ 401 := by omega
              clear t1 t2 t3
              by_cases he : ix a i = ix b j
              · have hne : (ix a i != ix b j) = false := by simpa using he
                rw [if_pos he] at HST
                clear he
                go_wp2
                refine ⟨⟨j + 1, rfl, by rw [HQ.out], by omega, ?_, hbel.setCell (p := ⟨w.heap.size, j + 1, none⟩) (Nat.le_refl _) _⟩, by simp [intOf]; omega⟩
                exact farPut HRN.out hB'.out (by have := HST.out; split <;> split <;> omega)
              · have hne : (ix a i != ix b j) = true := by simpa using he
                rw [if_neg he] at HST
                clear he
                go_wp2
                refine ⟨⟨j + 1, rfl, by rw [HQ.out], by omega, ?_, hbel.setCell (p := ⟨w.heap.size, j + 1, none⟩) (Nat.le_refl _) _⟩, by simp [intOf]; omega⟩
                exact farPut HRN.out hB'.out (by have := HST.out; split <;> split <;> omega)
            · obtain rfl : j = n := by omega
              have hB2 : Blk wr w.heap.size ((farOld a b (i + 1)).map (Value.int .i64)).toArray 3 := by
                have := farRow_last a b i
                rw [HN.out] at this
                rw [← this]; exact hB
              have HB2 := Lib.hid hB2
              clear hB hB2 hjn hj
              go_wp2
              refine ⟨⟨i + 1, rfl, by omega, HB2.out, hbel⟩, by simp [intOf]; omega⟩
        · obtain rfl : i = m := by omega
          have co := rowCell hB (i := n) (by rw [farOld_len, HN.out]; omega)
          rw [farOld, ix_range (by rw [HN.out]; omega), HD.out] at co
          have hn1 : (n : Int) < (n : Int) + 1 := by omega
          have hn0 : (0 : Int) ≤ (n : Int) := by omega
          clear hB hlt hi
          go_wp2
          go_ret2
          exact ⟨rfl, hbel⟩

end Go.Proofs.Ytmipnikhgihcpaa
