/- LiftEditDoes, part 5: joined from the texts Do4 Dr0 Dr1 Dr2 Obj Obj2 Obj3 Obj4 Obj5 Obj6 DyckR. No condition of its own. -/
import Derived.Test.YtmipnikhgihcpaaEditDJ1
import Derived.Test.YtmipnikhgihcpaaEditDJ2
import Derived.Test.YtmipnikhgihcpaaEditDJ3
import Derived.Test.YtmipnikhgihcpaaEditDJ4
import Derived.Deep.RegionLaw
import Derived.Deep.RegionHeld3
import Derived.Deep.LoopGhost
import Derived.Deep.DeepCutAuto
import Derived.Deep.CutBlock
set_option linter.unusedVariables false
set_option linter.unusedSimpArgs false
namespace Go.Proofs.Ytmipnikhgihcpaa
open Go.RowKit
def flV (k : Int) : Int := if k = 102 then 70 else if k = 70 then 102 else if k = 116 then 84 else if k = 84 then 116 else k
def mtK (fk d : Int) : Int := if d ≠ 59 ∧ d ≠ 44 then d else if fk = 0 then d else if d = 44 then flV fk else fk
def mtA (fk fa d e : Int) : Int := if d ≠ 59 ∧ d ≠ 44 then e else if fk = 0 then e else fa
def mtE (fk d : Int) : Int := if d ≠ 59 ∧ d ≠ 44 then 0 else if fk = 0 then 5 else 0
def MtPost (k n g er : Int) (w : World) (e : Ending) (w' : World) : Prop := e = .returned (.tuple #[.agg #[.int .i64 k, .int .i64 n, .int .i64 g], .int .i64 er]) ∧ Below w.heap.size w w'
theorem threeC (w : World) (u v x : Array Value) (e f g : TypeId) : Blk (((w.alloc (.cells u e)).alloc (.cells v f)).alloc (.cells x g)) w.heap.size u e ∧ Blk (((w.alloc (.cells u e)).alloc (.cells v f)).alloc (.cells x g)) (w.heap.size + 1) v f ∧ Blk (((w.alloc (.cells u e)).alloc (.cells v f)).alloc (.cells x g)) (w.heap.size + 2) x g ∧ Below w.heap.size w (((w.alloc (.cells u e)).alloc (.cells v f)).alloc (.cells x g)) ∧ (((w.alloc (.cells u e)).alloc (.cells v f)).alloc (.cells x g)).heap.size = w.heap.size + 3 := by
 obtain ⟨h1, h2, h3⟩ := twoC w u v e f
 have h := Blk.new ((w.alloc (.cells u e)).alloc (.cells v f)) x g
 rw [World.size_alloc, World.size_alloc] at h
 exact ⟨h1.alloc _, h2.alloc _, h, h3.alloc h3.size _, by rw [World.size_alloc, World.size_alloc, World.size_alloc]⟩
set_option maxRecDepth 100000 in
set_option maxHeartbeats 2000000 in
theorem meant_plain (fk fa a b op d e : Int) (w : World) (h1 : d ≠ 59) (h2 : d ≠ 44) : Calls Try.prog 145 #[.agg #[.int .i64 fk, .int .i64 fa], .agg #[.int .i64 a, .int .i64 b, .int .i64 op, .int .i64 d, .int .i64 e]] w (MtPost d a e 0 w) := by
 have n1 : (d != 59) = true := by simpa using h1
 have n2 : (d != 44) = true := by simpa using h2
 clear h1 h2
 obtain ⟨hF, hC, hR, hb, hsz⟩ := threeC w #[.int .i64 fk, .int .i64 fa] #[.int .i64 a, .int .i64 b, .int .i64 op, .int .i64 d, .int .i64 e] #[.int .i64 0, .int .i64 0, .int .i64 0] 135 80 227
 go_enter Try.func145, Try.ntmps145
 go_upto_region 1 with fail
 generalize (((w.alloc (.cells #[.int .i64 fk, .int .i64 fa] 135)).alloc (.cells #[.int .i64 a, .int .i64 b, .int .i64 op, .int .i64 d, .int .i64 e] 80)).alloc (.cells #[.int .i64 0, .int .i64 0, .int .i64 0] 227)) = w1 at *
 obtain ⟨c0, c1, c2, c3, c4⟩ := hC.five
 have hM := Blk.new w1 #[.int .i64 d, .int .i64 a, .int .i64 e] 227
 rw [hsz] at hM
 have hF := hF.alloc (.cells #[.int .i64 d, .int .i64 a, .int .i64 e] 227)
 have hC := hC.alloc (.cells #[.int .i64 d, .int .i64 a, .int .i64 e] 227)
 have hR := hR.alloc (.cells #[.int .i64 d, .int .i64 a, .int .i64 e] 227)
 have hb := hb.alloc hb.size (.cells #[.int .i64 d, .int .i64 a, .int .i64 e] 227)
 go_upto_region 2 with fail
 clear c0 c1 c2 c3 c4
 generalize (w1.alloc (.cells #[.int .i64 d, .int .i64 a, .int .i64 e] 227)) = w2 at *
 obtain ⟨c0, c1, c2, c3, c4⟩ := hC.five
 obtain ⟨p0, p1, -, -⟩ := hF.two
 obtain ⟨m0, m1, m2, q0, q1, q2⟩ := hM.three
 obtain ⟨d0, d1, d2, g0, g1, g2⟩ := hR.three
 have hG := ((hR.set 0 (.int .i64 d)).set 1 (.int .i64 a)).set 2 (.int .i64 e)
 have hB := ((hb.setCell (p := ⟨w.heap.size + 2, 0, none⟩) (by show w.heap.size ≤ w.heap.size + 2; omega) (.int .i64 d)).setCell (p := ⟨w.heap.size + 2, 1, none⟩) (by show w.heap.size ≤ w.heap.size + 2; omega) (.int .i64 a)).setCell (p := ⟨w.heap.size + 2, 2, none⟩) (by show w.heap.size ≤ w.heap.size + 2; omega) (.int .i64 e)
 obtain ⟨y0, y1, y2, -, -, -⟩ := Blk.three hG
 have HB := Lib.hid hB
 clear hG hB
 go_wp2
 refine bodyPost_ret (v := .tuple #[.agg #[.int .i64 d, .int .i64 a, .int .i64 e], .int .i64 0]) (by simp [results, Try.results145, go_sem, y0, y1, y2]) rfl ?_
 exact ⟨rfl, HB.out⟩
set_option maxRecDepth 100000 in
set_option maxHeartbeats 2000000 in
theorem meant_none59 (fa a b op e : Int) (w : World) : Calls Try.prog 145 #[.agg #[.int .i64 0, .int .i64 fa], .agg #[.int .i64 a, .int .i64 b, .int .i64 op, .int .i64 59, .int .i64 e]] w (MtPost 59 a e 5 w) := by
 obtain ⟨hF, hC, hR, hb, hsz⟩ := threeC w #[.int .i64 0, .int .i64 fa] #[.int .i64 a, .int .i64 b, .int .i64 op, .int .i64 59, .int .i64 e] #[.int .i64 0, .int .i64 0, .int .i64 0] 135 80 227
 go_enter Try.func145, Try.ntmps145
 go_upto_region 1 with fail
 generalize (((w.alloc (.cells #[.int .i64 0, .int .i64 fa] 135)).alloc (.cells #[.int .i64 a, .int .i64 b, .int .i64 op, .int .i64 59, .int .i64 e] 80)).alloc (.cells #[.int .i64 0, .int .i64 0, .int .i64 0] 227)) = w1 at *
 obtain ⟨c0, c1, c2, c3, c4⟩ := hC.five
 have hM := Blk.new w1 #[.int .i64 59, .int .i64 a, .int .i64 e] 227
 rw [hsz] at hM
 have hF := hF.alloc (.cells #[.int .i64 59, .int .i64 a, .int .i64 e] 227)
 have hC := hC.alloc (.cells #[.int .i64 59, .int .i64 a, .int .i64 e] 227)
 have hR := hR.alloc (.cells #[.int .i64 59, .int .i64 a, .int .i64 e] 227)
 have hb := hb.alloc hb.size (.cells #[.int .i64 59, .int .i64 a, .int .i64 e] 227)
 go_upto_region 2 with fail
 clear c0 c1 c2 c3 c4
 generalize (w1.alloc (.cells #[.int .i64 59, .int .i64 a, .int .i64 e] 227)) = w2 at *
 obtain ⟨c0, c1, c2, c3, c4⟩ := hC.five
 obtain ⟨p0, p1, -, -⟩ := hF.two
 obtain ⟨m0, m1, m2, q0, q1, q2⟩ := hM.three
 obtain ⟨d0, d1, d2, g0, g1, g2⟩ := hR.three
 have hG := ((hR.set 0 (.int .i64 59)).set 1 (.int .i64 a)).set 2 (.int .i64 e)
 have hB := ((hb.setCell (p := ⟨w.heap.size + 2, 0, none⟩) (by show w.heap.size ≤ w.heap.size + 2; omega) (.int .i64 59)).setCell (p := ⟨w.heap.size + 2, 1, none⟩) (by show w.heap.size ≤ w.heap.size + 2; omega) (.int .i64 a)).setCell (p := ⟨w.heap.size + 2, 2, none⟩) (by show w.heap.size ≤ w.heap.size + 2; omega) (.int .i64 e)
 obtain ⟨y0, y1, y2, -, -, -⟩ := Blk.three hG
 have HB := Lib.hid hB
 clear hG hB
 go_wp2
 refine bodyPost_ret (v := .tuple #[.agg #[.int .i64 59, .int .i64 a, .int .i64 e], .int .i64 5]) (by simp [results, Try.results145, go_sem, y0, y1, y2]) rfl ?_
 exact ⟨rfl, HB.out⟩
set_option maxRecDepth 100000 in
set_option maxHeartbeats 2000000 in
theorem meant_none44 (fa a b op e : Int) (w : World) : Calls Try.prog 145 #[.agg #[.int .i64 0, .int .i64 fa], .agg #[.int .i64 a, .int .i64 b, .int .i64 op, .int .i64 44, .int .i64 e]] w (MtPost 44 a e 5 w) := by
 obtain ⟨hF, hC, hR, hb, hsz⟩ := threeC w #[.int .i64 0, .int .i64 fa] #[.int .i64 a, .int .i64 b, .int .i64 op, .int .i64 44, .int .i64 e] #[.int .i64 0, .int .i64 0, .int .i64 0] 135 80 227
 go_enter Try.func145, Try.ntmps145
 go_upto_region 1 with fail
 generalize (((w.alloc (.cells #[.int .i64 0, .int .i64 fa] 135)).alloc (.cells #[.int .i64 a, .int .i64 b, .int .i64 op, .int .i64 44, .int .i64 e] 80)).alloc (.cells #[.int .i64 0, .int .i64 0, .int .i64 0] 227)) = w1 at *
 obtain ⟨c0, c1, c2, c3, c4⟩ := hC.five
 have hM := Blk.new w1 #[.int .i64 44, .int .i64 a, .int .i64 e] 227
 rw [hsz] at hM
 have hF := hF.alloc (.cells #[.int .i64 44, .int .i64 a, .int .i64 e] 227)
 have hC := hC.alloc (.cells #[.int .i64 44, .int .i64 a, .int .i64 e] 227)
 have hR := hR.alloc (.cells #[.int .i64 44, .int .i64 a, .int .i64 e] 227)
 have hb := hb.alloc hb.size (.cells #[.int .i64 44, .int .i64 a, .int .i64 e] 227)
 go_upto_region 2 with fail
 clear c0 c1 c2 c3 c4
 generalize (w1.alloc (.cells #[.int .i64 44, .int .i64 a, .int .i64 e] 227)) = w2 at *
 obtain ⟨c0, c1, c2, c3, c4⟩ := hC.five
 obtain ⟨p0, p1, -, -⟩ := hF.two
 obtain ⟨m0, m1, m2, q0, q1, q2⟩ := hM.three
 obtain ⟨d0, d1, d2, g0, g1, g2⟩ := hR.three
 have hG := ((hR.set 0 (.int .i64 44)).set 1 (.int .i64 a)).set 2 (.int .i64 e)
 have hB := ((hb.setCell (p := ⟨w.heap.size + 2, 0, none⟩) (by show w.heap.size ≤ w.heap.size + 2; omega) (.int .i64 44)).setCell (p := ⟨w.heap.size + 2, 1, none⟩) (by show w.heap.size ≤ w.heap.size + 2; omega) (.int .i64 a)).setCell (p := ⟨w.heap.size + 2, 2, none⟩) (by show w.heap.size ≤ w.heap.size + 2; omega) (.int .i64 e)
 obtain ⟨y0, y1, y2, -, -, -⟩ := Blk.three hG
 have HB := Lib.hid hB
 clear hG hB
 go_wp2
 refine bodyPost_ret (v := .tuple #[.agg #[.int .i64 44, .int .i64 a, .int .i64 e], .int .i64 5]) (by simp [results, Try.results145, go_sem, y0, y1, y2]) rfl ?_
 exact ⟨rfl, HB.out⟩
set_option maxRecDepth 100000 in
set_option maxHeartbeats 2000000 in
theorem meant_semi (fk fa a b op e : Int) (w : World) (h : fk ≠ 0) : Calls Try.prog 145 #[.agg #[.int .i64 fk, .int .i64 fa], .agg #[.int .i64 a, .int .i64 b, .int .i64 op, .int .i64 59, .int .i64 e]] w (MtPost fk a fa 0 w) := by
 have n0 : (fk == 0) = false := by simpa using h
 clear h
 obtain ⟨hF, hC, hR, hb, hsz⟩ := threeC w #[.int .i64 fk, .int .i64 fa] #[.int .i64 a, .int .i64 b, .int .i64 op, .int .i64 59, .int .i64 e] #[.int .i64 0, .int .i64 0, .int .i64 0] 135 80 227
 go_enter Try.func145, Try.ntmps145
 go_upto_region 1 with fail
 generalize (((w.alloc (.cells #[.int .i64 fk, .int .i64 fa] 135)).alloc (.cells #[.int .i64 a, .int .i64 b, .int .i64 op, .int .i64 59, .int .i64 e] 80)).alloc (.cells #[.int .i64 0, .int .i64 0, .int .i64 0] 227)) = w1 at *
 obtain ⟨c0, c1, c2, c3, c4⟩ := hC.five
 have hM := Blk.new w1 #[.int .i64 59, .int .i64 a, .int .i64 e] 227
 rw [hsz] at hM
 have hF := hF.alloc (.cells #[.int .i64 59, .int .i64 a, .int .i64 e] 227)
 have hC := hC.alloc (.cells #[.int .i64 59, .int .i64 a, .int .i64 e] 227)
 have hR := hR.alloc (.cells #[.int .i64 59, .int .i64 a, .int .i64 e] 227)
 have hb := hb.alloc hb.size (.cells #[.int .i64 59, .int .i64 a, .int .i64 e] 227)
 go_upto_region 2 with fail
 clear c0 c1 c2 c3 c4
 generalize (w1.alloc (.cells #[.int .i64 59, .int .i64 a, .int .i64 e] 227)) = w2 at *
 obtain ⟨c0, c1, c2, c3, c4⟩ := hC.five
 obtain ⟨p0, p1, -, -⟩ := hF.two
 obtain ⟨m0, m1, m2, q0, q1, q2⟩ := hM.three
 obtain ⟨d0, d1, d2, g0, g1, g2⟩ := hR.three
 go_upto_region 6 with fail
 go_cut [32] (fun v wx => Blk wx w.heap.size #[.int .i64 fk, .int .i64 fa] 135 ∧ Blk wx (w.heap.size + 1) #[.int .i64 a, .int .i64 b, .int .i64 op, .int .i64 59, .int .i64 e] 80 ∧ Blk wx (w.heap.size + 3) #[.int .i64 fk, .int .i64 a, .int .i64 fa] 227 ∧ Blk wx (w.heap.size + 2) #[.int .i64 0, .int .i64 0, .int .i64 0] 227 ∧ Below w.heap.size w wx)
 case first =>
  have HF := Lib.hid (show _ ∧ _ ∧ _ ∧ _ ∧ _ from ⟨((hF.other (a := ⟨w.heap.size + 3, 0, none⟩) (show w.heap.size ≠ w.heap.size + 3 by omega) (.int .i64 fk)).other (a := ⟨w.heap.size + 3, 2, none⟩) (show w.heap.size ≠ w.heap.size + 3 by omega) (.int .i64 fa)), ((hC.other (a := ⟨w.heap.size + 3, 0, none⟩) (show w.heap.size + 1 ≠ w.heap.size + 3 by omega) (.int .i64 fk)).other (a := ⟨w.heap.size + 3, 2, none⟩) (show w.heap.size + 1 ≠ w.heap.size + 3 by omega) (.int .i64 fa)), (hM.set 0 (.int .i64 fk)).set 2 (.int .i64 fa), ((hR.other (a := ⟨w.heap.size + 3, 0, none⟩) (show w.heap.size + 2 ≠ w.heap.size + 3 by omega) (.int .i64 fk)).other (a := ⟨w.heap.size + 3, 2, none⟩) (show w.heap.size + 2 ≠ w.heap.size + 3 by omega) (.int .i64 fa)), (hb.setCell (p := ⟨w.heap.size + 3, 0, none⟩) (by show w.heap.size ≤ w.heap.size + 3; omega) (.int .i64 fk)).setCell (p := ⟨w.heap.size + 3, 2, none⟩) (by show w.heap.size ≤ w.heap.size + 3; omega) (.int .i64 fa)⟩)
  clear hF hC hM hR hb
  go_region
  all_goals
   go_wp2
   go_meet
   exact ⟨HF.out.1, HF.out.2.1, HF.out.2.2.1, HF.out.2.2.2.1, HF.out.2.2.2.2.drew⟩
 case rest =>
  obtain ⟨hF, hC, hM, hR, hb⟩ := hcut
  clear c0 c1 c2 c3 c4 p0 p1 m0 m1 m2 q0 q1 q2 d0 d1 d2 g0 g1 g2
  obtain ⟨c0, c1, c2, c3, c4⟩ := hC.five
  obtain ⟨p0, p1, -, -⟩ := hF.two
  obtain ⟨m0, m1, m2, q0, q1, q2⟩ := hM.three
  obtain ⟨d0, d1, d2, g0, g1, g2⟩ := hR.three
  have hG := ((hR.set 0 (.int .i64 fk)).set 1 (.int .i64 a)).set 2 (.int .i64 fa)
  have hB := ((hb.setCell (p := ⟨w.heap.size + 2, 0, none⟩) (by show w.heap.size ≤ w.heap.size + 2; omega) (.int .i64 fk)).setCell (p := ⟨w.heap.size + 2, 1, none⟩) (by show w.heap.size ≤ w.heap.size + 2; omega) (.int .i64 a)).setCell (p := ⟨w.heap.size + 2, 2, none⟩) (by show w.heap.size ≤ w.heap.size + 2; omega) (.int .i64 fa)
  obtain ⟨y0, y1, y2, -, -, -⟩ := Blk.three hG
  have HB := Lib.hid hB
  clear hG hB
  go_wp2
  refine bodyPost_ret (v := .tuple #[.agg #[.int .i64 fk, .int .i64 a, .int .i64 fa], .int .i64 0]) (by simp [results, Try.results145, go_sem, y0, y1, y2]) rfl ?_
  exact ⟨rfl, HB.out⟩
set_option maxRecDepth 100000 in
set_option maxHeartbeats 2000000 in
theorem meant_comma102 (fa a b op e : Int) (w : World) : Calls Try.prog 145 #[.agg #[.int .i64 102, .int .i64 fa], .agg #[.int .i64 a, .int .i64 b, .int .i64 op, .int .i64 44, .int .i64 e]] w (MtPost 70 a fa 0 w) := by
 obtain ⟨hF, hC, hR, hb, hsz⟩ := threeC w #[.int .i64 102, .int .i64 fa] #[.int .i64 a, .int .i64 b, .int .i64 op, .int .i64 44, .int .i64 e] #[.int .i64 0, .int .i64 0, .int .i64 0] 135 80 227
 go_enter Try.func145, Try.ntmps145
 go_upto_region 1 with fail
 generalize (((w.alloc (.cells #[.int .i64 102, .int .i64 fa] 135)).alloc (.cells #[.int .i64 a, .int .i64 b, .int .i64 op, .int .i64 44, .int .i64 e] 80)).alloc (.cells #[.int .i64 0, .int .i64 0, .int .i64 0] 227)) = w1 at *
 obtain ⟨c0, c1, c2, c3, c4⟩ := hC.five
 have hM := Blk.new w1 #[.int .i64 44, .int .i64 a, .int .i64 e] 227
 rw [hsz] at hM
 have hF := hF.alloc (.cells #[.int .i64 44, .int .i64 a, .int .i64 e] 227)
 have hC := hC.alloc (.cells #[.int .i64 44, .int .i64 a, .int .i64 e] 227)
 have hR := hR.alloc (.cells #[.int .i64 44, .int .i64 a, .int .i64 e] 227)
 have hb := hb.alloc hb.size (.cells #[.int .i64 44, .int .i64 a, .int .i64 e] 227)
 go_upto_region 2 with fail
 clear c0 c1 c2 c3 c4
 generalize (w1.alloc (.cells #[.int .i64 44, .int .i64 a, .int .i64 e] 227)) = w2 at *
 obtain ⟨c0, c1, c2, c3, c4⟩ := hC.five
 obtain ⟨p0, p1, -, -⟩ := hF.two
 obtain ⟨m0, m1, m2, q0, q1, q2⟩ := hM.three
 obtain ⟨d0, d1, d2, g0, g1, g2⟩ := hR.three
 go_upto_region 6 with fail
 go_cut [32] (fun v wx => Blk wx w.heap.size #[.int .i64 102, .int .i64 fa] 135 ∧ Blk wx (w.heap.size + 1) #[.int .i64 a, .int .i64 b, .int .i64 op, .int .i64 44, .int .i64 e] 80 ∧ Blk wx (w.heap.size + 3) #[.int .i64 102, .int .i64 a, .int .i64 fa] 227 ∧ Blk wx (w.heap.size + 2) #[.int .i64 0, .int .i64 0, .int .i64 0] 227 ∧ Below w.heap.size w wx)
 case first =>
  have HF := Lib.hid (show _ ∧ _ ∧ _ ∧ _ ∧ _ from ⟨((hF.other (a := ⟨w.heap.size + 3, 0, none⟩) (show w.heap.size ≠ w.heap.size + 3 by omega) (.int .i64 102)).other (a := ⟨w.heap.size + 3, 2, none⟩) (show w.heap.size ≠ w.heap.size + 3 by omega) (.int .i64 fa)), ((hC.other (a := ⟨w.heap.size + 3, 0, none⟩) (show w.heap.size + 1 ≠ w.heap.size + 3 by omega) (.int .i64 102)).other (a := ⟨w.heap.size + 3, 2, none⟩) (show w.heap.size + 1 ≠ w.heap.size + 3 by omega) (.int .i64 fa)), (hM.set 0 (.int .i64 102)).set 2 (.int .i64 fa), ((hR.other (a := ⟨w.heap.size + 3, 0, none⟩) (show w.heap.size + 2 ≠ w.heap.size + 3 by omega) (.int .i64 102)).other (a := ⟨w.heap.size + 3, 2, none⟩) (show w.heap.size + 2 ≠ w.heap.size + 3 by omega) (.int .i64 fa)), (hb.setCell (p := ⟨w.heap.size + 3, 0, none⟩) (by show w.heap.size ≤ w.heap.size + 3; omega) (.int .i64 102)).setCell (p := ⟨w.heap.size + 3, 2, none⟩) (by show w.heap.size ≤ w.heap.size + 3; omega) (.int .i64 fa)⟩)
  clear hF hC hM hR hb
  go_region
  all_goals
   go_wp2
   go_meet
   exact ⟨HF.out.1, HF.out.2.1, HF.out.2.2.1, HF.out.2.2.2.1, HF.out.2.2.2.2.drew⟩
 case rest =>
  obtain ⟨hF, hC, hM, hR, hb⟩ := hcut
  clear c0 c1 c2 c3 c4 p0 p1 m0 m1 m2 q0 q1 q2 d0 d1 d2 g0 g1 g2
  obtain ⟨c0, c1, c2, c3, c4⟩ := hC.five
  obtain ⟨p0, p1, -, -⟩ := hF.two
  obtain ⟨m0, m1, m2, q0, q1, q2⟩ := hM.three
  obtain ⟨d0, d1, d2, g0, g1, g2⟩ := hR.three
  have hG := (((hR.other (a := ⟨w.heap.size + 3, 0, none⟩) (show w.heap.size + 2 ≠ w.heap.size + 3 by omega) (.int .i64 70)).set 0 (.int .i64 70)).set 1 (.int .i64 a)).set 2 (.int .i64 fa)
  have hB := (((hb.setCell (p := ⟨w.heap.size + 3, 0, none⟩) (by show w.heap.size ≤ w.heap.size + 3; omega) (.int .i64 70)).setCell (p := ⟨w.heap.size + 2, 0, none⟩) (by show w.heap.size ≤ w.heap.size + 2; omega) (.int .i64 70)).setCell (p := ⟨w.heap.size + 2, 1, none⟩) (by show w.heap.size ≤ w.heap.size + 2; omega) (.int .i64 a)).setCell (p := ⟨w.heap.size + 2, 2, none⟩) (by show w.heap.size ≤ w.heap.size + 2; omega) (.int .i64 fa)
  obtain ⟨y0, y1, y2, -, -, -⟩ := Blk.three hG
  have HB := Lib.hid hB
  clear hG hB
  go_wp2
  refine bodyPost_ret (v := .tuple #[.agg #[.int .i64 70, .int .i64 a, .int .i64 fa], .int .i64 0]) (by simp [results, Try.results145, go_sem, y0, y1, y2]) rfl ?_
  exact ⟨rfl, HB.out⟩
set_option maxRecDepth 100000 in
set_option maxHeartbeats 2000000 in
theorem meant_comma70 (fa a b op e : Int) (w : World) : Calls Try.prog 145 #[.agg #[.int .i64 70, .int .i64 fa], .agg #[.int .i64 a, .int .i64 b, .int .i64 op, .int .i64 44, .int .i64 e]] w (MtPost 102 a fa 0 w) := by
 obtain ⟨hF, hC, hR, hb, hsz⟩ := threeC w #[.int .i64 70, .int .i64 fa] #[.int .i64 a, .int .i64 b, .int .i64 op, .int .i64 44, .int .i64 e] #[.int .i64 0, .int .i64 0, .int .i64 0] 135 80 227
 go_enter Try.func145, Try.ntmps145
 go_upto_region 1 with fail
 generalize (((w.alloc (.cells #[.int .i64 70, .int .i64 fa] 135)).alloc (.cells #[.int .i64 a, .int .i64 b, .int .i64 op, .int .i64 44, .int .i64 e] 80)).alloc (.cells #[.int .i64 0, .int .i64 0, .int .i64 0] 227)) = w1 at *
 obtain ⟨c0, c1, c2, c3, c4⟩ := hC.five
 have hM := Blk.new w1 #[.int .i64 44, .int .i64 a, .int .i64 e] 227
 rw [hsz] at hM
 have hF := hF.alloc (.cells #[.int .i64 44, .int .i64 a, .int .i64 e] 227)
 have hC := hC.alloc (.cells #[.int .i64 44, .int .i64 a, .int .i64 e] 227)
 have hR := hR.alloc (.cells #[.int .i64 44, .int .i64 a, .int .i64 e] 227)
 have hb := hb.alloc hb.size (.cells #[.int .i64 44, .int .i64 a, .int .i64 e] 227)
 go_upto_region 2 with fail
 clear c0 c1 c2 c3 c4
 generalize (w1.alloc (.cells #[.int .i64 44, .int .i64 a, .int .i64 e] 227)) = w2 at *
 obtain ⟨c0, c1, c2, c3, c4⟩ := hC.five
 obtain ⟨p0, p1, -, -⟩ := hF.two
 obtain ⟨m0, m1, m2, q0, q1, q2⟩ := hM.three
 obtain ⟨d0, d1, d2, g0, g1, g2⟩ := hR.three
 go_upto_region 6 with fail
 go_cut [32] (fun v wx => Blk wx w.heap.size #[.int .i64 70, .int .i64 fa] 135 ∧ Blk wx (w.heap.size + 1) #[.int .i64 a, .int .i64 b, .int .i64 op, .int .i64 44, .int .i64 e] 80 ∧ Blk wx (w.heap.size + 3) #[.int .i64 70, .int .i64 a, .int .i64 fa] 227 ∧ Blk wx (w.heap.size + 2) #[.int .i64 0, .int .i64 0, .int .i64 0] 227 ∧ Below w.heap.size w wx)
 case first =>
  have HF := Lib.hid (show _ ∧ _ ∧ _ ∧ _ ∧ _ from ⟨((hF.other (a := ⟨w.heap.size + 3, 0, none⟩) (show w.heap.size ≠ w.heap.size + 3 by omega) (.int .i64 70)).other (a := ⟨w.heap.size + 3, 2, none⟩) (show w.heap.size ≠ w.heap.size + 3 by omega) (.int .i64 fa)), ((hC.other (a := ⟨w.heap.size + 3, 0, none⟩) (show w.heap.size + 1 ≠ w.heap.size + 3 by omega) (.int .i64 70)).other (a := ⟨w.heap.size + 3, 2, none⟩) (show w.heap.size + 1 ≠ w.heap.size + 3 by omega) (.int .i64 fa)), (hM.set 0 (.int .i64 70)).set 2 (.int .i64 fa), ((hR.other (a := ⟨w.heap.size + 3, 0, none⟩) (show w.heap.size + 2 ≠ w.heap.size + 3 by omega) (.int .i64 70)).other (a := ⟨w.heap.size + 3, 2, none⟩) (show w.heap.size + 2 ≠ w.heap.size + 3 by omega) (.int .i64 fa)), (hb.setCell (p := ⟨w.heap.size + 3, 0, none⟩) (by show w.heap.size ≤ w.heap.size + 3; omega) (.int .i64 70)).setCell (p := ⟨w.heap.size + 3, 2, none⟩) (by show w.heap.size ≤ w.heap.size + 3; omega) (.int .i64 fa)⟩)
  clear hF hC hM hR hb
  go_region
  all_goals
   go_wp2
   go_meet
   exact ⟨HF.out.1, HF.out.2.1, HF.out.2.2.1, HF.out.2.2.2.1, HF.out.2.2.2.2.drew⟩
 case rest =>
  obtain ⟨hF, hC, hM, hR, hb⟩ := hcut
  clear c0 c1 c2 c3 c4 p0 p1 m0 m1 m2 q0 q1 q2 d0 d1 d2 g0 g1 g2
  obtain ⟨c0, c1, c2, c3, c4⟩ := hC.five
  obtain ⟨p0, p1, -, -⟩ := hF.two
  obtain ⟨m0, m1, m2, q0, q1, q2⟩ := hM.three
  obtain ⟨d0, d1, d2, g0, g1, g2⟩ := hR.three
  have hG := (((hR.other (a := ⟨w.heap.size + 3, 0, none⟩) (show w.heap.size + 2 ≠ w.heap.size + 3 by omega) (.int .i64 102)).set 0 (.int .i64 102)).set 1 (.int .i64 a)).set 2 (.int .i64 fa)
  have hB := (((hb.setCell (p := ⟨w.heap.size + 3, 0, none⟩) (by show w.heap.size ≤ w.heap.size + 3; omega) (.int .i64 102)).setCell (p := ⟨w.heap.size + 2, 0, none⟩) (by show w.heap.size ≤ w.heap.size + 2; omega) (.int .i64 102)).setCell (p := ⟨w.heap.size + 2, 1, none⟩) (by show w.heap.size ≤ w.heap.size + 2; omega) (.int .i64 a)).setCell (p := ⟨w.heap.size + 2, 2, none⟩) (by show w.heap.size ≤ w.heap.size + 2; omega) (.int .i64 fa)
  obtain ⟨y0, y1, y2, -, -, -⟩ := Blk.three hG
  have HB := Lib.hid hB
  clear hG hB
  go_wp2
  refine bodyPost_ret (v := .tuple #[.agg #[.int .i64 102, .int .i64 a, .int .i64 fa], .int .i64 0]) (by simp [results, Try.results145, go_sem, y0, y1, y2]) rfl ?_
  exact ⟨rfl, HB.out⟩
set_option maxRecDepth 100000 in
set_option maxHeartbeats 2000000 in
theorem meant_comma116 (fa a b op e : Int) (w : World) : Calls Try.prog 145 #[.agg #[.int .i64 116, .int .i64 fa], .agg #[.int .i64 a, .int .i64 b, .int .i64 op, .int .i64 44, .int .i64 e]] w (MtPost 84 a fa 0 w) := by
 obtain ⟨hF, hC, hR, hb, hsz⟩ := threeC w #[.int .i64 116, .int .i64 fa] #[.int .i64 a, .int .i64 b, .int .i64 op, .int .i64 44, .int .i64 e] #[.int .i64 0, .int .i64 0, .int .i64 0] 135 80 227
 go_enter Try.func145, Try.ntmps145
 go_upto_region 1 with fail
 generalize (((w.alloc (.cells #[.int .i64 116, .int .i64 fa] 135)).alloc (.cells #[.int .i64 a, .int .i64 b, .int .i64 op, .int .i64 44, .int .i64 e] 80)).alloc (.cells #[.int .i64 0, .int .i64 0, .int .i64 0] 227)) = w1 at *
 obtain ⟨c0, c1, c2, c3, c4⟩ := hC.five
 have hM := Blk.new w1 #[.int .i64 44, .int .i64 a, .int .i64 e] 227
 rw [hsz] at hM
 have hF := hF.alloc (.cells #[.int .i64 44, .int .i64 a, .int .i64 e] 227)
 have hC := hC.alloc (.cells #[.int .i64 44, .int .i64 a, .int .i64 e] 227)
 have hR := hR.alloc (.cells #[.int .i64 44, .int .i64 a, .int .i64 e] 227)
 have hb := hb.alloc hb.size (.cells #[.int .i64 44, .int .i64 a, .int .i64 e] 227)
 go_upto_region 2 with fail
 clear c0 c1 c2 c3 c4
 generalize (w1.alloc (.cells #[.int .i64 44, .int .i64 a, .int .i64 e] 227)) = w2 at *
 obtain ⟨c0, c1, c2, c3, c4⟩ := hC.five
 obtain ⟨p0, p1, -, -⟩ := hF.two
 obtain ⟨m0, m1, m2, q0, q1, q2⟩ := hM.three
 obtain ⟨d0, d1, d2, g0, g1, g2⟩ := hR.three
 go_upto_region 6 with fail
 go_cut [32] (fun v wx => Blk wx w.heap.size #[.int .i64 116, .int .i64 fa] 135 ∧ Blk wx (w.heap.size + 1) #[.int .i64 a, .int .i64 b, .int .i64 op, .int .i64 44, .int .i64 e] 80 ∧ Blk wx (w.heap.size + 3) #[.int .i64 116, .int .i64 a, .int .i64 fa] 227 ∧ Blk wx (w.heap.size + 2) #[.int .i64 0, .int .i64 0, .int .i64 0] 227 ∧ Below w.heap.size w wx)
 case first =>
  have HF := Lib.hid (show _ ∧ _ ∧ _ ∧ _ ∧ _ from ⟨((hF.other (a := ⟨w.heap.size + 3, 0, none⟩) (show w.heap.size ≠ w.heap.size + 3 by omega) (.int .i64 116)).other (a := ⟨w.heap.size + 3, 2, none⟩) (show w.heap.size ≠ w.heap.size + 3 by omega) (.int .i64 fa)), ((hC.other (a := ⟨w.heap.size + 3, 0, none⟩) (show w.heap.size + 1 ≠ w.heap.size + 3 by omega) (.int .i64 116)).other (a := ⟨w.heap.size + 3, 2, none⟩) (show w.heap.size + 1 ≠ w.heap.size + 3 by omega) (.int .i64 fa)), (hM.set 0 (.int .i64 116)).set 2 (.int .i64 fa), ((hR.other (a := ⟨w.heap.size + 3, 0, none⟩) (show w.heap.size + 2 ≠ w.heap.size + 3 by omega) (.int .i64 116)).other (a := ⟨w.heap.size + 3, 2, none⟩) (show w.heap.size + 2 ≠ w.heap.size + 3 by omega) (.int .i64 fa)), (hb.setCell (p := ⟨w.heap.size + 3, 0, none⟩) (by show w.heap.size ≤ w.heap.size + 3; omega) (.int .i64 116)).setCell (p := ⟨w.heap.size + 3, 2, none⟩) (by show w.heap.size ≤ w.heap.size + 3; omega) (.int .i64 fa)⟩)
  clear hF hC hM hR hb
  go_region
  all_goals
   go_wp2
   go_meet
   exact ⟨HF.out.1, HF.out.2.1, HF.out.2.2.1, HF.out.2.2.2.1, HF.out.2.2.2.2.drew⟩
 case rest =>
  obtain ⟨hF, hC, hM, hR, hb⟩ := hcut
  clear c0 c1 c2 c3 c4 p0 p1 m0 m1 m2 q0 q1 q2 d0 d1 d2 g0 g1 g2
  obtain ⟨c0, c1, c2, c3, c4⟩ := hC.five
  obtain ⟨p0, p1, -, -⟩ := hF.two
  obtain ⟨m0, m1, m2, q0, q1, q2⟩ := hM.three
  obtain ⟨d0, d1, d2, g0, g1, g2⟩ := hR.three
  have hG := (((hR.other (a := ⟨w.heap.size + 3, 0, none⟩) (show w.heap.size + 2 ≠ w.heap.size + 3 by omega) (.int .i64 84)).set 0 (.int .i64 84)).set 1 (.int .i64 a)).set 2 (.int .i64 fa)
  have hB := (((hb.setCell (p := ⟨w.heap.size + 3, 0, none⟩) (by show w.heap.size ≤ w.heap.size + 3; omega) (.int .i64 84)).setCell (p := ⟨w.heap.size + 2, 0, none⟩) (by show w.heap.size ≤ w.heap.size + 2; omega) (.int .i64 84)).setCell (p := ⟨w.heap.size + 2, 1, none⟩) (by show w.heap.size ≤ w.heap.size + 2; omega) (.int .i64 a)).setCell (p := ⟨w.heap.size + 2, 2, none⟩) (by show w.heap.size ≤ w.heap.size + 2; omega) (.int .i64 fa)
  obtain ⟨y0, y1, y2, -, -, -⟩ := Blk.three hG
  have HB := Lib.hid hB
  clear hG hB
  go_wp2
  refine bodyPost_ret (v := .tuple #[.agg #[.int .i64 84, .int .i64 a, .int .i64 fa], .int .i64 0]) (by simp [results, Try.results145, go_sem, y0, y1, y2]) rfl ?_
  exact ⟨rfl, HB.out⟩
set_option maxRecDepth 100000 in
set_option maxHeartbeats 2000000 in
theorem meant_comma84 (fa a b op e : Int) (w : World) : Calls Try.prog 145 #[.agg #[.int .i64 84, .int .i64 fa], .agg #[.int .i64 a, .int .i64 b, .int .i64 op, .int .i64 44, .int .i64 e]] w (MtPost 116 a fa 0 w) := by
 obtain ⟨hF, hC, hR, hb, hsz⟩ := threeC w #[.int .i64 84, .int .i64 fa] #[.int .i64 a, .int .i64 b, .int .i64 op, .int .i64 44, .int .i64 e] #[.int .i64 0, .int .i64 0, .int .i64 0] 135 80 227
 go_enter Try.func145, Try.ntmps145
 go_upto_region 1 with fail
 generalize (((w.alloc (.cells #[.int .i64 84, .int .i64 fa] 135)).alloc (.cells #[.int .i64 a, .int .i64 b, .int .i64 op, .int .i64 44, .int .i64 e] 80)).alloc (.cells #[.int .i64 0, .int .i64 0, .int .i64 0] 227)) = w1 at *
 obtain ⟨c0, c1, c2, c3, c4⟩ := hC.five
 have hM := Blk.new w1 #[.int .i64 44, .int .i64 a, .int .i64 e] 227
 rw [hsz] at hM
 have hF := hF.alloc (.cells #[.int .i64 44, .int .i64 a, .int .i64 e] 227)
 have hC := hC.alloc (.cells #[.int .i64 44, .int .i64 a, .int .i64 e] 227)
 have hR := hR.alloc (.cells #[.int .i64 44, .int .i64 a, .int .i64 e] 227)
 have hb := hb.alloc hb.size (.cells #[.int .i64 44, .int .i64 a, .int .i64 e] 227)
 go_upto_region 2 with fail
 clear c0 c1 c2 c3 c4
 generalize (w1.alloc (.cells #[.int .i64 44, .int .i64 a, .int .i64 e] 227)) = w2 at *
 obtain ⟨c0, c1, c2, c3, c4⟩ := hC.five
 obtain ⟨p0, p1, -, -⟩ := hF.two
 obtain ⟨m0, m1, m2, q0, q1, q2⟩ := hM.three
 obtain ⟨d0, d1, d2, g0, g1, g2⟩ := hR.three
 go_upto_region 6 with fail
 go_cut [32] (fun v wx => Blk wx w.heap.size #[.int .i64 84, .int .i64 fa] 135 ∧ Blk wx (w.heap.size + 1) #[.int .i64 a, .int .i64 b, .int .i64 op, .int .i64 44, .int .i64 e] 80 ∧ Blk wx (w.heap.size + 3) #[.int .i64 84, .int .i64 a, .int .i64 fa] 227 ∧ Blk wx (w.heap.size + 2) #[.int .i64 0, .int .i64 0, .int .i64 0] 227 ∧ Below w.heap.size w wx)
 case first =>
  have HF := Lib.hid (show _ ∧ _ ∧ _ ∧ _ ∧ _ from ⟨((hF.other (a := ⟨w.heap.size + 3, 0, none⟩) (show w.heap.size ≠ w.heap.size + 3 by omega) (.int .i64 84)).other (a := ⟨w.heap.size + 3, 2, none⟩) (show w.heap.size ≠ w.heap.size + 3 by omega) (.int .i64 fa)), ((hC.other (a := ⟨w.heap.size + 3, 0, none⟩) (show w.heap.size + 1 ≠ w.heap.size + 3 by omega) (.int .i64 84)).other (a := ⟨w.heap.size + 3, 2, none⟩) (show w.heap.size + 1 ≠ w.heap.size + 3 by omega) (.int .i64 fa)), (hM.set 0 (.int .i64 84)).set 2 (.int .i64 fa), ((hR.other (a := ⟨w.heap.size + 3, 0, none⟩) (show w.heap.size + 2 ≠ w.heap.size + 3 by omega) (.int .i64 84)).other (a := ⟨w.heap.size + 3, 2, none⟩) (show w.heap.size + 2 ≠ w.heap.size + 3 by omega) (.int .i64 fa)), (hb.setCell (p := ⟨w.heap.size + 3, 0, none⟩) (by show w.heap.size ≤ w.heap.size + 3; omega) (.int .i64 84)).setCell (p := ⟨w.heap.size + 3, 2, none⟩) (by show w.heap.size ≤ w.heap.size + 3; omega) (.int .i64 fa)⟩)
  clear hF hC hM hR hb
  go_region
  all_goals
   go_wp2
   go_meet
   exact ⟨HF.out.1, HF.out.2.1, HF.out.2.2.1, HF.out.2.2.2.1, HF.out.2.2.2.2.drew⟩
 case rest =>
  obtain ⟨hF, hC, hM, hR, hb⟩ := hcut
  clear c0 c1 c2 c3 c4 p0 p1 m0 m1 m2 q0 q1 q2 d0 d1 d2 g0 g1 g2
  obtain ⟨c0, c1, c2, c3, c4⟩ := hC.five
  obtain ⟨p0, p1, -, -⟩ := hF.two
  obtain ⟨m0, m1, m2, q0, q1, q2⟩ := hM.three
  obtain ⟨d0, d1, d2, g0, g1, g2⟩ := hR.three
  have hG := (((hR.other (a := ⟨w.heap.size + 3, 0, none⟩) (show w.heap.size + 2 ≠ w.heap.size + 3 by omega) (.int .i64 116)).set 0 (.int .i64 116)).set 1 (.int .i64 a)).set 2 (.int .i64 fa)
  have hB := (((hb.setCell (p := ⟨w.heap.size + 3, 0, none⟩) (by show w.heap.size ≤ w.heap.size + 3; omega) (.int .i64 116)).setCell (p := ⟨w.heap.size + 2, 0, none⟩) (by show w.heap.size ≤ w.heap.size + 2; omega) (.int .i64 116)).setCell (p := ⟨w.heap.size + 2, 1, none⟩) (by show w.heap.size ≤ w.heap.size + 2; omega) (.int .i64 a)).setCell (p := ⟨w.heap.size + 2, 2, none⟩) (by show w.heap.size ≤ w.heap.size + 2; omega) (.int .i64 fa)
  obtain ⟨y0, y1, y2, -, -, -⟩ := Blk.three hG
  have HB := Lib.hid hB
  clear hG hB
  go_wp2
  refine bodyPost_ret (v := .tuple #[.agg #[.int .i64 116, .int .i64 a, .int .i64 fa], .int .i64 0]) (by simp [results, Try.results145, go_sem, y0, y1, y2]) rfl ?_
  exact ⟨rfl, HB.out⟩
set_option maxRecDepth 100000 in
set_option maxHeartbeats 2000000 in
theorem meant_comma (fk fa a b op e : Int) (w : World) (h : fk ≠ 0) (h1 : fk ≠ 102) (h2 : fk ≠ 70) (h3 : fk ≠ 116) (h4 : fk ≠ 84) : Calls Try.prog 145 #[.agg #[.int .i64 fk, .int .i64 fa], .agg #[.int .i64 a, .int .i64 b, .int .i64 op, .int .i64 44, .int .i64 e]] w (MtPost fk a fa 0 w) := by
 have n0 : (fk == 0) = false := by simpa using h
 have n1 : (fk == 102) = false := by simpa using h1
 have n2 : (fk == 70) = false := by simpa using h2
 have n3 : (fk == 116) = false := by simpa using h3
 have n4 : (fk == 84) = false := by simpa using h4
 clear h h1 h2 h3 h4
 obtain ⟨hF, hC, hR, hb, hsz⟩ := threeC w #[.int .i64 fk, .int .i64 fa] #[.int .i64 a, .int .i64 b, .int .i64 op, .int .i64 44, .int .i64 e] #[.int .i64 0, .int .i64 0, .int .i64 0] 135 80 227
 go_enter Try.func145, Try.ntmps145
 go_upto_region 1 with fail
 generalize (((w.alloc (.cells #[.int .i64 fk, .int .i64 fa] 135)).alloc (.cells #[.int .i64 a, .int .i64 b, .int .i64 op, .int .i64 44, .int .i64 e] 80)).alloc (.cells #[.int .i64 0, .int .i64 0, .int .i64 0] 227)) = w1 at *
 obtain ⟨c0, c1, c2, c3, c4⟩ := hC.five
 have hM := Blk.new w1 #[.int .i64 44, .int .i64 a, .int .i64 e] 227
 rw [hsz] at hM
 have hF := hF.alloc (.cells #[.int .i64 44, .int .i64 a, .int .i64 e] 227)
 have hC := hC.alloc (.cells #[.int .i64 44, .int .i64 a, .int .i64 e] 227)
 have hR := hR.alloc (.cells #[.int .i64 44, .int .i64 a, .int .i64 e] 227)
 have hb := hb.alloc hb.size (.cells #[.int .i64 44, .int .i64 a, .int .i64 e] 227)
 go_upto_region 2 with fail
 clear c0 c1 c2 c3 c4
 generalize (w1.alloc (.cells #[.int .i64 44, .int .i64 a, .int .i64 e] 227)) = w2 at *
 obtain ⟨c0, c1, c2, c3, c4⟩ := hC.five
 obtain ⟨p0, p1, -, -⟩ := hF.two
 obtain ⟨m0, m1, m2, q0, q1, q2⟩ := hM.three
 obtain ⟨d0, d1, d2, g0, g1, g2⟩ := hR.three
 go_upto_region 6 with fail
 go_cut [32] (fun v wx => Blk wx w.heap.size #[.int .i64 fk, .int .i64 fa] 135 ∧ Blk wx (w.heap.size + 1) #[.int .i64 a, .int .i64 b, .int .i64 op, .int .i64 44, .int .i64 e] 80 ∧ Blk wx (w.heap.size + 3) #[.int .i64 fk, .int .i64 a, .int .i64 fa] 227 ∧ Blk wx (w.heap.size + 2) #[.int .i64 0, .int .i64 0, .int .i64 0] 227 ∧ Below w.heap.size w wx)
 case first =>
  have HF := Lib.hid (show _ ∧ _ ∧ _ ∧ _ ∧ _ from ⟨((hF.other (a := ⟨w.heap.size + 3, 0, none⟩) (show w.heap.size ≠ w.heap.size + 3 by omega) (.int .i64 fk)).other (a := ⟨w.heap.size + 3, 2, none⟩) (show w.heap.size ≠ w.heap.size + 3 by omega) (.int .i64 fa)), ((hC.other (a := ⟨w.heap.size + 3, 0, none⟩) (show w.heap.size + 1 ≠ w.heap.size + 3 by omega) (.int .i64 fk)).other (a := ⟨w.heap.size + 3, 2, none⟩) (show w.heap.size + 1 ≠ w.heap.size + 3 by omega) (.int .i64 fa)), (hM.set 0 (.int .i64 fk)).set 2 (.int .i64 fa), ((hR.other (a := ⟨w.heap.size + 3, 0, none⟩) (show w.heap.size + 2 ≠ w.heap.size + 3 by omega) (.int .i64 fk)).other (a := ⟨w.heap.size + 3, 2, none⟩) (show w.heap.size + 2 ≠ w.heap.size + 3 by omega) (.int .i64 fa)), (hb.setCell (p := ⟨w.heap.size + 3, 0, none⟩) (by show w.heap.size ≤ w.heap.size + 3; omega) (.int .i64 fk)).setCell (p := ⟨w.heap.size + 3, 2, none⟩) (by show w.heap.size ≤ w.heap.size + 3; omega) (.int .i64 fa)⟩)
  clear hF hC hM hR hb
  go_region
  all_goals
   go_wp2
   go_meet
   exact ⟨HF.out.1, HF.out.2.1, HF.out.2.2.1, HF.out.2.2.2.1, HF.out.2.2.2.2.drew⟩
 case rest =>
  obtain ⟨hF, hC, hM, hR, hb⟩ := hcut
  clear c0 c1 c2 c3 c4 p0 p1 m0 m1 m2 q0 q1 q2 d0 d1 d2 g0 g1 g2
  obtain ⟨c0, c1, c2, c3, c4⟩ := hC.five
  obtain ⟨p0, p1, -, -⟩ := hF.two
  obtain ⟨m0, m1, m2, q0, q1, q2⟩ := hM.three
  obtain ⟨d0, d1, d2, g0, g1, g2⟩ := hR.three
  have hG := ((hR.set 0 (.int .i64 fk)).set 1 (.int .i64 a)).set 2 (.int .i64 fa)
  have hB := ((hb.setCell (p := ⟨w.heap.size + 2, 0, none⟩) (by show w.heap.size ≤ w.heap.size + 2; omega) (.int .i64 fk)).setCell (p := ⟨w.heap.size + 2, 1, none⟩) (by show w.heap.size ≤ w.heap.size + 2; omega) (.int .i64 a)).setCell (p := ⟨w.heap.size + 2, 2, none⟩) (by show w.heap.size ≤ w.heap.size + 2; omega) (.int .i64 fa)
  obtain ⟨y0, y1, y2, -, -, -⟩ := Blk.three hG
  have HB := Lib.hid hB
  clear hG hB
  go_wp2
  refine bodyPost_ret (v := .tuple #[.agg #[.int .i64 fk, .int .i64 a, .int .i64 fa], .int .i64 0]) (by simp [results, Try.results145, go_sem, y0, y1, y2]) rfl ?_
  exact ⟨rfl, HB.out⟩
theorem ref_meant (fk fa : Int) (c : C5) (w : World) : Calls Try.prog 145 #[.agg #[.int .i64 fk, .int .i64 fa], c.v] w (MtPost (mtK fk c.d) c.a (mtA fk fa c.d c.e) (mtE fk c.d) w) := by
 obtain ⟨a, b, op, d, e⟩ := c
 unfold mtK mtA mtE
 by_cases h : d ≠ 59 ∧ d ≠ 44
 ·simp only [if_pos h]
  exact meant_plain fk fa a b op d e w h.1 h.2
 ·simp only [if_neg h]
  by_cases h0 : fk = 0
  ·simp only [if_pos h0]
   subst h0
   by_cases h1 : d = 59
   ·subst h1; exact meant_none59 fa a b op e w
   ·obtain rfl : d = 44 := by omega
    exact meant_none44 fa a b op e w
  ·simp only [if_neg h0]
   by_cases h1 : d = 44
   ·subst h1
    rw [if_pos rfl]
    unfold flV
    by_cases k1 : fk = 102
    ·subst k1; exact meant_comma102 fa a b op e w
    ·by_cases k2 : fk = 70
     ·subst k2; exact meant_comma70 fa a b op e w
     ·by_cases k3 : fk = 116
      ·subst k3; exact meant_comma116 fa a b op e w
      ·by_cases k4 : fk = 84
       ·subst k4; exact meant_comma84 fa a b op e w
       ·rw [if_neg k1, if_neg k2, if_neg k3, if_neg k4]
        exact meant_comma fk fa a b op e w h0 k1 k2 k3 k4
   ·obtain rfl : d = 59 := by omega
    rw [if_neg h1]
    exact meant_semi fk fa a b op e w h0
structure In where
 w0 : World
 a : Option Addr
 n : Nat
 c : Nat
 t : List Int
 k : Nat
 vs : List Value
 X : List (List Int)
structure InOk (I : In) : Prop where
 len : I.t.length = I.n
 top : I.n ≤ 200
 cap : I.n ≤ I.c
 cap2 : I.c ≤ 9223372036854775807
 ints : Ints I.w0 I.a I.t
 none : I.a = none → I.n = 0
 rgs : Rgs I.w0 I.vs I.X
 small : ∀ i, i < 27 → (rx I.X i).length ≤ 1048576
 k1 : I.k < I.n ∨ I.k = 0
structure St where
 cm : C5
 O : List Int
 p : Int
 Y : List (List Int)
 fk : Int
 fa : Int
 md : Int
 es : List Sp
structure DI (P : Nat) (w : World) (us : List Value) (I : In) (s : St) : Prop where
 lu : us.length = 67
 b : BlkR w P us 223
 bel : Below I.w0.heap.size I.w0 w
 ge : I.w0.heap.size ≤ P
 u0 : vx us 0 = .slice I.a I.n I.c
 u1 : vx us 1 = .int .i64 (I.k : Int)
 ur : ∀ i, i < 27 → vx us (2 + i) = vx I.vs i
 k0 : vx us 29 = .int .i64 s.cm.a
 k1 : vx us 30 = .int .i64 s.cm.b
 k2 : vx us 31 = .int .i64 s.cm.c
 k3 : vx us 32 = .int .i64 s.cm.d
 k4 : vx us 33 = .int .i64 s.cm.e
 o : Own 3 (P + 1) w (vx us 34) s.O
 p : vx us 35 = .int .i64 s.p
 ly : s.Y.length = 27
 y : ∀ i, i < 27 → Own 3 (P + 1) w (vx us (36 + i)) (rx s.Y i)
 f1 : vx us 63 = .int .i64 s.fk
 f2 : vx us 64 = .int .i64 s.fa
 m : vx us 65 = .int .i64 s.md
 e : ∃ ws, SOwn (P + 1) w (vx us 66) ws s.es
structure Asd (P : Nat) (w w' : World) : Prop where
 blk : ∀ {B : Nat} {cs : Array Value} {e : TypeId}, B ≠ P → Blk w B cs e → Blk w' B cs e
 size : w.heap.size ≤ w'.heap.size
 cell : ∀ {b i : Nat} {v : Value}, b ≠ P → w.cell? ⟨b, i, none⟩ = some v → w'.cell? ⟨b, i, none⟩ = some v
theorem Asd.refl (P : Nat) (w : World) : Asd P w w := ⟨fun _ h => h, Nat.le_refl _, fun _ h => h⟩
theorem Asd.trans {P : Nat} {a b c : World} (h : Asd P a b) (h' : Asd P b c) : Asd P a c := ⟨fun hne hb => h'.blk hne (h.blk hne hb), Nat.le_trans h.size h'.size, fun hne hb => h'.cell hne (h.cell hne hb)⟩
theorem Asd.of {P : Nat} {w w' : World} (h : Below w.heap.size w w') : Asd P w w' := ⟨fun _ hb => hb.below h hb.lt, h.size, fun _ hb => by rw [h.cell (cell_lt hb)]; exact hb⟩
theorem Asd.set {P i : Nat} {w : World} (v : Value) : Asd P w (w.setCell ⟨P, i, none⟩ v) := ⟨fun hne hb => hb.other (a := ⟨P, i, none⟩) hne v, by rw [size_setCell]; exact Nat.le_refl _, fun hne hb => by rw [World.cell?_setCell_other (a := ⟨P, i, none⟩) (h := fun e => hne (by injection e with e1; exact e1.symm))]; exact hb⟩
theorem Asd.setCells {P o : Nat} {w : World} (vs : List Value) : Asd P w (w.setCells P o vs) := ⟨fun hne hb => hb.setCellsOther hne _ o, by rw [size_setCells]; exact Nat.le_refl _, fun hne hb => by rw [World.cell?_setCells_out P vs o w _ (fun e _ => absurd e hne)]; exact hb⟩
theorem Asd.drew {P : Nat} {a w : World} (h : Asd P a w) : Asd P a w.drew := ⟨fun hne hb => h.blk hne hb, h.size, fun hne hb => h.cell hne hb⟩
theorem Asd.drewN {P : Nat} {a w : World} (h : Asd P a w) (n : Nat) : Asd P a (w.drewN n) := ⟨fun hne hb => h.blk hne hb, h.size, fun hne hb => h.cell hne hb⟩
theorem SOwn.setCell {base : Nat} {w : World} {v : Value} {us : List SV} {es : List Sp} (h : SOwn base w v us es) {a : Addr} (ha : a.block < base) (u : Value) : SOwn base (w.setCell a u) v us es :=
 ⟨ownsRow_setCell_below h.1 ha u, forall2_imp h.2 fun _ _ hh => hh.imp fun k => k.setCell ha u⟩
theorem SOwn.left {base B : Nat} {w w' : World} {v : Value} {us : List SV} {es : List Sp} (h : SOwn base w v us es) (hL : Left B w w') (hb : B < base) : SOwn base w' v us es := by
 refine ⟨⟨h.1.1, ?_⟩, forall2_imp h.2 fun _ _ hh => hh.imp fun k => k.left hL hb⟩
 rcases h.1.2 with hn | ⟨g, cap, cur, rfl, hb', hgg, rest⟩
 ·exact .inl hn
 ·exact .inr ⟨g, cap, cur, rfl, hb', hL.blk (by omega) hgg, rest⟩
theorem DI.lt {P : Nat} {w : World} {us : List Value} {I : In} {s : St} (h : DI P w us I s) : P < w.heap.size := h.b.lt
theorem DI.to {P : Nat} {w w' : World} {us : List Value} {I : In} {s : St} (h : DI P w us I s) (hb : Below w.heap.size w w') : DI P w' us I s :=
 ⟨h.lu, h.b.below hb h.lt, below_then h.bel h.bel.size hb, h.ge, h.u0, h.u1, h.ur, h.k0, h.k1, h.k2, h.k3, h.k4, h.o.kept hb, h.p, h.ly, fun i hi => (h.y i hi).kept hb, h.f1, h.f2, h.m, by obtain ⟨ws, hw⟩ := h.e; exact ⟨ws, hw.kept hb⟩⟩
theorem DI.drewN {P : Nat} {w : World} {us : List Value} {I : In} {s : St} (h : DI P w us I s) (n : Nat) : DI P (w.drewN n) us I s := h.to (below_drewN (Below.refl _ _) n)
theorem DI.drew {P : Nat} {w : World} {us : List Value} {I : In} {s : St} (h : DI P w us I s) : DI P w.drew us I s := h.to (Below.refl _ _).drew
theorem DI.alloc {P : Nat} {w : World} {us : List Value} {I : In} {s : St} (h : DI P w us I s) (o : Obj) : DI P (w.alloc o) us I s := h.to (below1 _ _)
theorem DI.cell {P : Nat} {w : World} {us : List Value} {I : In} {s : St} (h : DI P w us I s) {i : Nat} (hi : i < 67) : w.cell? ⟨P, i, none⟩ = some (vx us i) := h.b.cell (by rw [h.lu]; exact hi)
theorem DI.free {P : Nat} {w : World} {us : List Value} {I : In} {s : St} (h : DI P w us I s) (i : Nat) : w.frozen? ⟨P, i, none⟩ = false := h.b.free i
theorem DI.c0 {P : Nat} {w : World} {us : List Value} {I : In} {s : St} (h : DI P w us I s) : w.cell? ⟨P, 0, none⟩ = some (.slice I.a I.n I.c) := by rw [h.cell (by decide), h.u0]
theorem DI.c1 {P : Nat} {w : World} {us : List Value} {I : In} {s : St} (h : DI P w us I s) : w.cell? ⟨P, 1, none⟩ = some (.int .i64 (I.k : Int)) := by rw [h.cell (by decide), h.u1]
theorem DI.c29 {P : Nat} {w : World} {us : List Value} {I : In} {s : St} (h : DI P w us I s) : w.cell? ⟨P, 29, none⟩ = some (.int .i64 s.cm.a) := by rw [h.cell (by decide), h.k0]
theorem DI.c30 {P : Nat} {w : World} {us : List Value} {I : In} {s : St} (h : DI P w us I s) : w.cell? ⟨P, 30, none⟩ = some (.int .i64 s.cm.b) := by rw [h.cell (by decide), h.k1]
theorem DI.c31 {P : Nat} {w : World} {us : List Value} {I : In} {s : St} (h : DI P w us I s) : w.cell? ⟨P, 31, none⟩ = some (.int .i64 s.cm.c) := by rw [h.cell (by decide), h.k2]
theorem DI.c32 {P : Nat} {w : World} {us : List Value} {I : In} {s : St} (h : DI P w us I s) : w.cell? ⟨P, 32, none⟩ = some (.int .i64 s.cm.d) := by rw [h.cell (by decide), h.k3]
theorem DI.c33 {P : Nat} {w : World} {us : List Value} {I : In} {s : St} (h : DI P w us I s) : w.cell? ⟨P, 33, none⟩ = some (.int .i64 s.cm.e) := by rw [h.cell (by decide), h.k4]
theorem DI.c35 {P : Nat} {w : World} {us : List Value} {I : In} {s : St} (h : DI P w us I s) : w.cell? ⟨P, 35, none⟩ = some (.int .i64 s.p) := by rw [h.cell (by decide), h.p]
theorem DI.c63 {P : Nat} {w : World} {us : List Value} {I : In} {s : St} (h : DI P w us I s) : w.cell? ⟨P, 63, none⟩ = some (.int .i64 s.fk) := by rw [h.cell (by decide), h.f1]
theorem DI.c64 {P : Nat} {w : World} {us : List Value} {I : In} {s : St} (h : DI P w us I s) : w.cell? ⟨P, 64, none⟩ = some (.int .i64 s.fa) := by rw [h.cell (by decide), h.f2]
theorem DI.c65 {P : Nat} {w : World} {us : List Value} {I : In} {s : St} (h : DI P w us I s) : w.cell? ⟨P, 65, none⟩ = some (.int .i64 s.md) := by rw [h.cell (by decide), h.m]
theorem DI.sl {P : Nat} {w : World} {us : List Value} {I : In} {s : St} (h : DI P w us I s) (hi : InOk I) : Ints w I.a I.t := hi.ints.below h.bel
theorem DI.rg {P : Nat} {w : World} {us : List Value} {I : In} {s : St} (h : DI P w us I s) (hi : InOk I) : Rgs w I.vs I.X := hi.rgs.below h.bel
theorem DI.rr {P : Nat} {w : World} {us : List Value} {I : In} {s : St} (h : DI P w us I s) (hi : InOk I) : w.rangeAt P 2 I.vs := by
 intro j v hv
 have hj : j < 27 := by rw [← hi.rgs.lv]; exact (List.getElem?_eq_some_iff.1 hv).1
 rw [h.cell (by omega), h.ur j hj]
 simp only [vx, List.getD_eq_getElem?_getD, hv, Option.getD_some]
theorem DI.o34 {P : Nat} {w : World} {us : List Value} {I : In} {s : St} (h : DI P w us I s) : ∃ a c, w.cell? ⟨P, 34, none⟩ = some (.slice a s.O.length c) ∧ s.O.length ≤ c ∧ Ints w a s.O := by
 obtain ⟨a, c, h1, h2, h3⟩ := h.o.ints
 exact ⟨a, c, by rw [h.cell (by decide), h1], h2, h3⟩
theorem DI.set35 {P : Nat} {w : World} {us : List Value} {I : In} {s : St} (h : DI P w us I s) (x : Int) : DI P (w.setCell ⟨P, 35, none⟩ (.int .i64 x)) (us.set 35 (.int .i64 x)) I { s with p := x } :=
 { lu := by simpa using h.lu, b := h.b.set 35 _, bel := h.bel.setCell (p := ⟨P, 35, none⟩) h.ge _, ge := h.ge, u0 := by rw [vx_set_ne (by omega)]; exact h.u0, u1 := by rw [vx_set_ne (by omega)]; exact h.u1, ur := fun i hi => by rw [vx_set_ne (by omega)]; exact h.ur i hi, k0 := by rw [vx_set_ne (by omega)]; exact h.k0, k1 := by rw [vx_set_ne (by omega)]; exact h.k1, k2 := by rw [vx_set_ne (by omega)]; exact h.k2, k3 := by rw [vx_set_ne (by omega)]; exact h.k3, k4 := by rw [vx_set_ne (by omega)]; exact h.k4, o := by rw [vx_set_ne (by omega)]; exact h.o.setCell (a := ⟨P, 35, none⟩) (Nat.lt_succ_self P) _, p := vx_set_eq (by rw [h.lu]; decide) _, ly := h.ly, y := fun i hi => by rw [vx_set_ne (by omega)]; exact (h.y i hi).setCell (a := ⟨P, 35, none⟩) (Nat.lt_succ_self P) _, f1 := by rw [vx_set_ne (by omega)]; exact h.f1, f2 := by rw [vx_set_ne (by omega)]; exact h.f2, m := by rw [vx_set_ne (by omega)]; exact h.m, e := by rw [vx_set_ne (by omega)]; obtain ⟨ws, hw⟩ := h.e; exact ⟨ws, hw.setCell (a := ⟨P, 35, none⟩) (Nat.lt_succ_self P) _⟩ }
theorem DI.set63 {P : Nat} {w : World} {us : List Value} {I : In} {s : St} (h : DI P w us I s) (x : Int) : DI P (w.setCell ⟨P, 63, none⟩ (.int .i64 x)) (us.set 63 (.int .i64 x)) I { s with fk := x } :=
 { lu := by simpa using h.lu, b := h.b.set 63 _, bel := h.bel.setCell (p := ⟨P, 63, none⟩) h.ge _, ge := h.ge, u0 := by rw [vx_set_ne (by omega)]; exact h.u0, u1 := by rw [vx_set_ne (by omega)]; exact h.u1, ur := fun i hi => by rw [vx_set_ne (by omega)]; exact h.ur i hi, k0 := by rw [vx_set_ne (by omega)]; exact h.k0, k1 := by rw [vx_set_ne (by omega)]; exact h.k1, k2 := by rw [vx_set_ne (by omega)]; exact h.k2, k3 := by rw [vx_set_ne (by omega)]; exact h.k3, k4 := by rw [vx_set_ne (by omega)]; exact h.k4, o := by rw [vx_set_ne (by omega)]; exact h.o.setCell (a := ⟨P, 63, none⟩) (Nat.lt_succ_self P) _, p := by rw [vx_set_ne (by omega)]; exact h.p, ly := h.ly, y := fun i hi => by rw [vx_set_ne (by omega)]; exact (h.y i hi).setCell (a := ⟨P, 63, none⟩) (Nat.lt_succ_self P) _, f1 := vx_set_eq (by rw [h.lu]; decide) _, f2 := by rw [vx_set_ne (by omega)]; exact h.f2, m := by rw [vx_set_ne (by omega)]; exact h.m, e := by rw [vx_set_ne (by omega)]; obtain ⟨ws, hw⟩ := h.e; exact ⟨ws, hw.setCell (a := ⟨P, 63, none⟩) (Nat.lt_succ_self P) _⟩ }
theorem DI.set64 {P : Nat} {w : World} {us : List Value} {I : In} {s : St} (h : DI P w us I s) (x : Int) : DI P (w.setCell ⟨P, 64, none⟩ (.int .i64 x)) (us.set 64 (.int .i64 x)) I { s with fa := x } :=
 { lu := by simpa using h.lu, b := h.b.set 64 _, bel := h.bel.setCell (p := ⟨P, 64, none⟩) h.ge _, ge := h.ge, u0 := by rw [vx_set_ne (by omega)]; exact h.u0, u1 := by rw [vx_set_ne (by omega)]; exact h.u1, ur := fun i hi => by rw [vx_set_ne (by omega)]; exact h.ur i hi, k0 := by rw [vx_set_ne (by omega)]; exact h.k0, k1 := by rw [vx_set_ne (by omega)]; exact h.k1, k2 := by rw [vx_set_ne (by omega)]; exact h.k2, k3 := by rw [vx_set_ne (by omega)]; exact h.k3, k4 := by rw [vx_set_ne (by omega)]; exact h.k4, o := by rw [vx_set_ne (by omega)]; exact h.o.setCell (a := ⟨P, 64, none⟩) (Nat.lt_succ_self P) _, p := by rw [vx_set_ne (by omega)]; exact h.p, ly := h.ly, y := fun i hi => by rw [vx_set_ne (by omega)]; exact (h.y i hi).setCell (a := ⟨P, 64, none⟩) (Nat.lt_succ_self P) _, f1 := by rw [vx_set_ne (by omega)]; exact h.f1, f2 := vx_set_eq (by rw [h.lu]; decide) _, m := by rw [vx_set_ne (by omega)]; exact h.m, e := by rw [vx_set_ne (by omega)]; obtain ⟨ws, hw⟩ := h.e; exact ⟨ws, hw.setCell (a := ⟨P, 64, none⟩) (Nat.lt_succ_self P) _⟩ }
theorem DI.set65 {P : Nat} {w : World} {us : List Value} {I : In} {s : St} (h : DI P w us I s) (x : Int) : DI P (w.setCell ⟨P, 65, none⟩ (.int .i64 x)) (us.set 65 (.int .i64 x)) I { s with md := x } :=
 { lu := by simpa using h.lu, b := h.b.set 65 _, bel := h.bel.setCell (p := ⟨P, 65, none⟩) h.ge _, ge := h.ge, u0 := by rw [vx_set_ne (by omega)]; exact h.u0, u1 := by rw [vx_set_ne (by omega)]; exact h.u1, ur := fun i hi => by rw [vx_set_ne (by omega)]; exact h.ur i hi, k0 := by rw [vx_set_ne (by omega)]; exact h.k0, k1 := by rw [vx_set_ne (by omega)]; exact h.k1, k2 := by rw [vx_set_ne (by omega)]; exact h.k2, k3 := by rw [vx_set_ne (by omega)]; exact h.k3, k4 := by rw [vx_set_ne (by omega)]; exact h.k4, o := by rw [vx_set_ne (by omega)]; exact h.o.setCell (a := ⟨P, 65, none⟩) (Nat.lt_succ_self P) _, p := by rw [vx_set_ne (by omega)]; exact h.p, ly := h.ly, y := fun i hi => by rw [vx_set_ne (by omega)]; exact (h.y i hi).setCell (a := ⟨P, 65, none⟩) (Nat.lt_succ_self P) _, f1 := by rw [vx_set_ne (by omega)]; exact h.f1, f2 := by rw [vx_set_ne (by omega)]; exact h.f2, m := vx_set_eq (by rw [h.lu]; decide) _, e := by rw [vx_set_ne (by omega)]; obtain ⟨ws, hw⟩ := h.e; exact ⟨ws, hw.setCell (a := ⟨P, 65, none⟩) (Nat.lt_succ_self P) _⟩ }
theorem DI.set34 {P : Nat} {w : World} {us : List Value} {I : In} {s : St} (h : DI P w us I s) (v : Value) (x : List Int) (hx : Own 3 (P + 1) w v x) : DI P (w.setCell ⟨P, 34, none⟩ v) (us.set 34 v) I { s with O := x } :=
 { lu := by simpa using h.lu, b := h.b.set 34 _, bel := h.bel.setCell (p := ⟨P, 34, none⟩) h.ge _, ge := h.ge, u0 := by rw [vx_set_ne (by omega)]; exact h.u0, u1 := by rw [vx_set_ne (by omega)]; exact h.u1, ur := fun i hi => by rw [vx_set_ne (by omega)]; exact h.ur i hi, k0 := by rw [vx_set_ne (by omega)]; exact h.k0, k1 := by rw [vx_set_ne (by omega)]; exact h.k1, k2 := by rw [vx_set_ne (by omega)]; exact h.k2, k3 := by rw [vx_set_ne (by omega)]; exact h.k3, k4 := by rw [vx_set_ne (by omega)]; exact h.k4, o := by rw [vx_set_eq (by rw [h.lu]; decide) _]; exact hx.setCell (a := ⟨P, 34, none⟩) (Nat.lt_succ_self P) _, p := by rw [vx_set_ne (by omega)]; exact h.p, ly := h.ly, y := fun i hi => by rw [vx_set_ne (by omega)]; exact (h.y i hi).setCell (a := ⟨P, 34, none⟩) (Nat.lt_succ_self P) _, f1 := by rw [vx_set_ne (by omega)]; exact h.f1, f2 := by rw [vx_set_ne (by omega)]; exact h.f2, m := by rw [vx_set_ne (by omega)]; exact h.m, e := by rw [vx_set_ne (by omega)]; obtain ⟨ws, hw⟩ := h.e; exact ⟨ws, hw.setCell (a := ⟨P, 34, none⟩) (Nat.lt_succ_self P) _⟩ }
theorem DI.set66 {P : Nat} {w : World} {us : List Value} {I : In} {s : St} (h : DI P w us I s) (v : Value) (ws : List SV) (x : List Sp) (hx : SOwn (P + 1) w v ws x) : DI P (w.setCell ⟨P, 66, none⟩ v) (us.set 66 v) I { s with es := x } :=
 { lu := by simpa using h.lu, b := h.b.set 66 _, bel := h.bel.setCell (p := ⟨P, 66, none⟩) h.ge _, ge := h.ge, u0 := by rw [vx_set_ne (by omega)]; exact h.u0, u1 := by rw [vx_set_ne (by omega)]; exact h.u1, ur := fun i hi => by rw [vx_set_ne (by omega)]; exact h.ur i hi, k0 := by rw [vx_set_ne (by omega)]; exact h.k0, k1 := by rw [vx_set_ne (by omega)]; exact h.k1, k2 := by rw [vx_set_ne (by omega)]; exact h.k2, k3 := by rw [vx_set_ne (by omega)]; exact h.k3, k4 := by rw [vx_set_ne (by omega)]; exact h.k4, o := by rw [vx_set_ne (by omega)]; exact h.o.setCell (a := ⟨P, 66, none⟩) (Nat.lt_succ_self P) _, p := by rw [vx_set_ne (by omega)]; exact h.p, ly := h.ly, y := fun i hi => by rw [vx_set_ne (by omega)]; exact (h.y i hi).setCell (a := ⟨P, 66, none⟩) (Nat.lt_succ_self P) _, f1 := by rw [vx_set_ne (by omega)]; exact h.f1, f2 := by rw [vx_set_ne (by omega)]; exact h.f2, m := by rw [vx_set_ne (by omega)]; exact h.m, e := by rw [vx_set_eq (by rw [h.lu]; decide) _]; exact ⟨ws, hx.setCell (a := ⟨P, 66, none⟩) (Nat.lt_succ_self P) _⟩ }
def ovl (us : List Value) (o : Nat) (vs : List Value) : List Value := (ow (rgA us) o vs).toList
theorem ovl_len (us : List Value) (o : Nat) (vs : List Value) : (ovl us o vs).length = us.length := by
 unfold ovl; rw [Array.length_toList, ow_size, rgA_size]
theorem vx_ovl {us : List Value} {o : Nat} {vs : List Value} {i : Nat} (hi : i < us.length) : vx (ovl us o vs) i = if o ≤ i ∧ i < o + vs.length then vx vs (i - o) else vx us i := by
 unfold ovl vx
 rw [List.getD_eq_getElem?_getD, Array.getElem?_toList, ow_at vs (rgA us) o i (by rw [rgA_size]; exact hi)]
 split
 ·rw [List.getD_eq_getElem?_getD]
 ·rw [List.getD_eq_getElem?_getD]; simp [rgA]
theorem vx_ovl_ne {us : List Value} {o : Nat} {vs : List Value} {i : Nat} (hi : i < us.length) (h : i < o ∨ o + vs.length ≤ i) : vx (ovl us o vs) i = vx us i := by
 rw [vx_ovl hi, if_neg (by omega)]
theorem vx_ovl_in {us : List Value} {o : Nat} {vs : List Value} {j : Nat} (hi : o + j < us.length) (h : j < vs.length) : vx (ovl us o vs) (o + j) = vx vs j := by
 rw [vx_ovl hi, if_pos (by omega), Nat.add_sub_cancel_left]
theorem BlkR.setCells {w : World} {B : Nat} {us : List Value} {e : TypeId} (h : BlkR w B us e) (o : Nat) (vs : List Value) : BlkR (w.setCells B o vs) B (ovl us o vs) e := by
 have := Blk.setCells vs o h
 unfold BlkR rgA ovl
 simpa using this
theorem left_setCells (w : World) (B o : Nat) (vs : List Value) : Left B w (w.setCells B o vs) := ⟨fun hne hb => hb.setCellsOther hne _ o, fun hN hb => below_setCells hN _ o hb, size_setCells _ _ _⟩
theorem DI.setRegs {P : Nat} {w : World} {us : List Value} {I : In} {s : St} (h : DI P w us I s) (vs : List Value) (Y : List (List Int)) (hv : RgO (P + 1) w vs Y) : DI P (w.setCells P 36 vs) (ovl us 36 vs) I { s with Y := Y } := by
 have hL := left_setCells w P 36 vs
 have lu := h.lu
 have lv := hv.lv
 have ne : ∀ {i : Nat}, i < 67 → (i < 36 ∨ 63 ≤ i) → vx (ovl us 36 vs) i = vx us i := fun {i} h1 h2 => vx_ovl_ne (by omega) (by omega)
 refine { lu := by rw [ovl_len, lu], b := h.b.setCells 36 vs, bel := hL.bel h.ge h.bel, ge := h.ge, u0 := by rw [ne (by omega) (by omega)]; exact h.u0, u1 := by rw [ne (by omega) (by omega)]; exact h.u1, ur := fun i hi => by rw [ne (by omega) (by omega)]; exact h.ur i hi, k0 := by rw [ne (by omega) (by omega)]; exact h.k0, k1 := by rw [ne (by omega) (by omega)]; exact h.k1, k2 := by rw [ne (by omega) (by omega)]; exact h.k2, k3 := by rw [ne (by omega) (by omega)]; exact h.k3, k4 := by rw [ne (by omega) (by omega)]; exact h.k4, o := by rw [ne (by omega) (by omega)]; exact h.o.left hL (Nat.lt_succ_self P), p := by rw [ne (by omega) (by omega)]; exact h.p, ly := hv.lx, y := fun i hi => by rw [vx_ovl_in (by omega) (by omega)]; exact (hv.ow i hi).left hL (Nat.lt_succ_self P), f1 := by rw [ne (by omega) (by omega)]; exact h.f1, f2 := by rw [ne (by omega) (by omega)]; exact h.f2, m := by rw [ne (by omega) (by omega)]; exact h.m, e := by rw [ne (by omega) (by omega)]; obtain ⟨ws, hw⟩ := h.e; exact ⟨ws, hw.left hL (Nat.lt_succ_self P)⟩ }
theorem DI.setCmd {P : Nat} {w : World} {us : List Value} {I : In} {s : St} (h : DI P w us I s) (c : C5) : DI P (w.setCells P 29 c.cells) (ovl us 29 c.cells) I { s with cm := c } := by
 have hL := left_setCells w P 29 c.cells
 have lu := h.lu
 have lv : c.cells.length = 5 := rfl
 have ne : ∀ {i : Nat}, i < 67 → (i < 29 ∨ 34 ≤ i) → vx (ovl us 29 c.cells) i = vx us i := fun {i} h1 h2 => vx_ovl_ne (by omega) (by omega)
 have at' : ∀ {j : Nat}, j < 5 → vx (ovl us 29 c.cells) (29 + j) = vx c.cells j := fun {j} hj => vx_ovl_in (by omega) (by omega)
 refine { lu := by rw [ovl_len, lu], b := h.b.setCells 29 c.cells, bel := hL.bel h.ge h.bel, ge := h.ge, u0 := by rw [ne (by omega) (by omega)]; exact h.u0, u1 := by rw [ne (by omega) (by omega)]; exact h.u1, ur := fun i hi => by rw [ne (by omega) (by omega)]; exact h.ur i hi, k0 := at' (j := 0) (by omega), k1 := at' (j := 1) (by omega), k2 := at' (j := 2) (by omega), k3 := at' (j := 3) (by omega), k4 := at' (j := 4) (by omega), o := by rw [ne (by omega) (by omega)]; exact h.o.left hL (Nat.lt_succ_self P), p := by rw [ne (by omega) (by omega)]; exact h.p, ly := h.ly, y := fun i hi => by rw [ne (by omega) (by omega)]; exact (h.y i hi).left hL (Nat.lt_succ_self P), f1 := by rw [ne (by omega) (by omega)]; exact h.f1, f2 := by rw [ne (by omega) (by omega)]; exact h.f2, m := by rw [ne (by omega) (by omega)]; exact h.m, e := by rw [ne (by omega) (by omega)]; obtain ⟨ws, hw⟩ := h.e; exact ⟨ws, hw.left hL (Nat.lt_succ_self P)⟩ }
noncomputable def btF (l m : List Int) : List Sp := Classical.epsilon fun es => BtP l m es
theorem btF_eq {l m : List Int} {es : List Sp} (h : BtP l m es) : btF l m = es := (Classical.epsilon_spec (p := fun es => BtP l m es) ⟨es, h⟩).one h
def DPost (P : Nat) (I : In) (er : Int) (s : St) (w : World) (e : Ending) (w' : World) : Prop := e = .returned (.int .i64 er) ∧ (∃ us, DI P w' us I s) ∧ Asd P w w'
def DPost0 (P : Nat) (I : In) (s : St) (w : World) (e : Ending) (w' : World) : Prop := e = .returned (.tuple #[]) ∧ (∃ us, DI P w' us I s) ∧ Asd P w w'
set_option maxRecDepth 100000 in
set_option maxHeartbeats 2000000 in
theorem doer_put (P f g : Nat) (us : List Value) (I : In) (hI : InOk I) (s : St) (b : Option Addr) (m d : Nat) (x : List Int) (w : World) (h : DI P w us I s) (hb : Ints w b x) (hm : x.length = m) (hm2 : m ≤ 2000) (h0 : b = none → m = 0) (hfg : f ≤ g) (hgn : g ≤ I.n) :
  Calls Try.prog 230 #[.pointer (some ⟨P, 0, none⟩), .int .i64 (f : Int), .int .i64 (g : Int), .slice b m d] w (DPost0 P I { s with O := I.t.take f ++ x ++ I.t.drop g, es := btF I.t (I.t.take f ++ x ++ I.t.drop g) } w) := by
 have hT := h.sl hI
 have HI := Lib.hid hI
 have HN := Lib.hid hI.len
 have hcap := hI.cap; have htop := hI.top
 have HA0 := Lib.hid hI.none
 have c0 := h.c0
 have HX := Lib.hid h
 have hPw := h.lt
 clear h hI
 obtain ⟨w0, a, n, c, t, k, vs, X⟩ := I
 dsimp only at *
 have hcr1 := cut_run_to a n c f (by omega)
 have hcr2 := cut_run_end a n c g hgn
 have L1 := Lib.hid (show (t.take f).length = f by rw [List.length_take, HN.out]; omega)
 have L2 := Lib.hid (show (t.drop g).length = n - g by rw [List.length_drop, HN.out])
 have HM := Lib.hid hm; have H0 := Lib.hid h0
 have hcat := (catIn3 w 22 c d (c - g) (hT.take f) hb (hT.cutEnd (c := c) g (by rw [HN.out]; exact hcap) (by rw [HN.out]; exact hgn)) L1.out HM.out L2.out (by omega) (by omega) (by omega) (fun hz => by have := HA0.out hz; omega) H0.out (fun hz => by have := HA0.out (cutA_none hz); omega)).drew
 obtain ⟨aa, haa⟩ : ∃ aa, cutA a c g = aa := ⟨_, rfl⟩
 rw [haa] at hcr2 hcat
 have HLL := Lib.hid (show (t.take f ++ x ++ t.drop g).length = f + m + (n - g) by rw [List.length_append, List.length_append, L1.out, HM.out, L2.out])
 have HJ := Lib.hid (show joinX (sel3 (t.take f) x (t.drop g)) 3 = t.take f ++ x ++ t.drop g from joinX3 _ _ _)
 have hW := below1 w (.cells #[.slice a f c, .slice b m d, .slice aa (n - g) (c - g)] 22)
 clear hm h0 hT hb haa
 go_enter Try.func230, Try.ntmps230
 go_upto_region 0 with fail
 go_cut [8] (fun v wx => ∃ a8 n8 c8, v = .slice a8 n8 c8 ∧ Own 3 (P + 1) wx (.slice a8 n8 c8) (t.take f ++ x ++ t.drop g) ∧ Below w.heap.size w wx)
 case first =>
  go_region_law (first | (go_simp; go_at_call 46; refine (slices_concat _ 3 _ _ _ _ _ hcat (by omega)).mono ?_; rintro e w8 ⟨v8, rfl, o8, hb8⟩; obtain ⟨a8, n8, c8, rfl⟩ := o8.form))
  all_goals
   have hb9 : Below w.heap.size w w8 := hW.drew.trans (hb8.mono (by show _ ≤ (w.alloc _).heap.size; rw [World.size_alloc]; omega))
   rw [HJ.out] at o8
   have o9 := o8.mono (base' := P + 1) (by show P + 1 ≤ (w.alloc _).heap.size; rw [World.size_alloc]; omega)
   go_wp2
   go_meet
   exact ⟨_, _, _, rfl, o9, hb9⟩
 obtain ⟨a8, n8, c8, rfl, o8, hb8⟩ := hcut
 clear hcat hcr1 hcr2 c0 hW
 have h8 := HX.out.to hb8
 have c0 := h8.c0
 have g8 := o8.get
 have HG := Lib.hid g8.1
 have hi8 := g8.2.1
 have hn8 : n8 ≤ 4096 := by have := g8.1; have := HLL.out; omega
 have hnc8 := g8.2.2
 have HZ := Lib.hid (show a8 = none → n8 = 0 from o8.sl.get.2.2.2.2)
 have hl8 := h8.sl HI.out
 have H8 := Lib.hid h8
 clear g8 h8
 go_wp2_with (go_at_call 256; refine (splice_between a a8 n c n8 c8 t _ _ hl8 hi8 HN.out HG.out (by omega) hn8 hnc8 HZ.out).mono ?_; rintro e w9 ⟨v9, ws, es, rfl, so9, hbt, hb9⟩; obtain ⟨a9, c9, rfl, -, -, -⟩ := so9.form; have h9 := H8.out.to hb9; have c66 := h9.cell (i := 66) (by decide); have f66 := h9.free 66; have h10 := h9.set66 _ ws es (so9.mono (Nat.lt_of_lt_of_le hPw hb8.size)); have c34 := h10.cell (i := 34) (by decide); have f34 := h10.free 34; have o10 := (o8.kept hb9).setCell (a := ⟨P, 66, none⟩) (Nat.lt_succ_self P) (.slice a9 es.length c9); have h11 := h10.set34 _ _ o10; have HB := Lib.hid hbt; clear h9 h10 hbt)
 go_end0
 exact ⟨rfl, ⟨_, by rw [btF_eq HB.out]; exact h11⟩, ((Asd.of hb8).trans (Asd.of hb9)).trans (Asd.set _) |>.trans (Asd.set _)⟩
theorem RgO.one {base : Nat} {w : World} {vs : List Value} {X : List (List Int)} (h : RgO base w vs X) : ∀ v ∈ vs, v.oneCell' = true := by
 intro v hv
 obtain ⟨i, hi, rfl⟩ := vx_mem hv
 obtain ⟨a, n, c, hv⟩ := h.slv i hi
 rw [hv]; rfl
theorem there_nil27 (w : World) : (w.alloc (.cells (rgA nil27) 133)).there w.heap.size 0 27 := by
 intro j hj
 have hB := BlkR.new w nil27 133
 rw [Nat.zero_add]
 exact ⟨by rw [hB.cell (by rw [nil27_len]; exact hj)]; rfl, hB.free j⟩
theorem there_below {w w' : World} {B n : Nat} (h : w.there B 0 n) (hB : B < w.heap.size) (hb : Below w.heap.size w w') : w'.there B 0 n := by
 intro j hj
 obtain ⟨h1, h2⟩ := h j hj
 rw [Nat.zero_add] at *
 refine ⟨?_, ?_⟩
 ·rw [hb.cell hB]; exact h1
 ·rw [hb.frozen hB]; exact h2
theorem keepK {P : Nat} {a : Option Addr} {n c : Nat} {rg : Int} {vs : List Value} {w w1 w2 : World} (hP : P < w.heap.size) (h : (w1.cell? ⟨P, 0, none⟩ = some (.slice a n c) ∧ w1.cell? ⟨P, 30, none⟩ = some (.int .i64 rg) ∧ w1.rangeAt P 2 vs ∧ Below w.heap.size w w1)) (hb : Below w.heap.size w1 w2) : (w2.cell? ⟨P, 0, none⟩ = some (.slice a n c) ∧ w2.cell? ⟨P, 30, none⟩ = some (.int .i64 rg) ∧ w2.rangeAt P 2 vs ∧ Below w.heap.size w w2) :=
 ⟨by rw [hb.cell hP]; exact h.1, by rw [hb.cell hP]; exact h.2.1, fun j v hv => by rw [hb.cell hP]; exact h.2.2.1 j v hv, h.2.2.2.trans hb⟩
theorem keepKC {P : Nat} {a : Option Addr} {n c : Nat} {rg : Int} {vs : List Value} {w w1 w2 : World} (hP : P < w.heap.size) (h : (w1.cell? ⟨P, 0, none⟩ = some (.slice a n c) ∧ w1.cell? ⟨P, 30, none⟩ = some (.int .i64 rg) ∧ w1.rangeAt P 2 vs ∧ Below w.heap.size w w1)) (hb : Below w1.heap.size w1 w2) : (w2.cell? ⟨P, 0, none⟩ = some (.slice a n c) ∧ w2.cell? ⟨P, 30, none⟩ = some (.int .i64 rg) ∧ w2.rangeAt P 2 vs ∧ Below w.heap.size w w2) := keepK hP h (hb.mono h.2.2.2.size)
theorem keepKA {P : Nat} {a : Option Addr} {n c : Nat} {rg : Int} {vs : List Value} {w w1 : World} (hP : P < w.heap.size) (h : (w1.cell? ⟨P, 0, none⟩ = some (.slice a n c) ∧ w1.cell? ⟨P, 30, none⟩ = some (.int .i64 rg) ∧ w1.rangeAt P 2 vs ∧ Below w.heap.size w w1)) (o : Obj) : ((w1.alloc o).cell? ⟨P, 0, none⟩ = some (.slice a n c) ∧ (w1.alloc o).cell? ⟨P, 30, none⟩ = some (.int .i64 rg) ∧ (w1.alloc o).rangeAt P 2 vs ∧ Below w.heap.size w (w1.alloc o)) := keepKC hP h (below1 _ _)
theorem keepKS {P : Nat} {a : Option Addr} {n c : Nat} {rg : Int} {vs : List Value} {w w1 : World} (hP : P < w.heap.size) (h : (w1.cell? ⟨P, 0, none⟩ = some (.slice a n c) ∧ w1.cell? ⟨P, 30, none⟩ = some (.int .i64 rg) ∧ w1.rangeAt P 2 vs ∧ Below w.heap.size w w1)) (k : Nat) (cs : List Value) (hB : w.heap.size ≤ k) : ((w1.setCells k 0 cs).cell? ⟨P, 0, none⟩ = some (.slice a n c) ∧ (w1.setCells k 0 cs).cell? ⟨P, 30, none⟩ = some (.int .i64 rg) ∧ (w1.setCells k 0 cs).rangeAt P 2 vs ∧ Below w.heap.size w (w1.setCells k 0 cs)) := keepK hP h (below_setCells hB cs 0 (Below.refl _ _))
theorem ovl_all {us vs : List Value} (h : us.length = vs.length) : ovl us 0 vs = vs := by
 apply List.ext_getElem (by rw [ovl_len, h])
 intro i h1 h2
 have := vx_ovl_in (us := us) (o := 0) (vs := vs) (j := i) (by omega) h2
 rw [Nat.zero_add] at this
 simpa [vx, List.getD_eq_getElem?_getD, h1, h2] using this
theorem keepE1 {P : Nat} {w w8 : World} {vs8 : List Value} {YY : List (List Int)} (hP : P < w.heap.size) (hR : RgO w.heap.size w8 vs8 YY) :
  BlkR ((w8.alloc (.cells (rgA nil27) 133)).setCells w8.heap.size 0 vs8) w8.heap.size vs8 133 ∧ RgO (P + 1) ((w8.alloc (.cells (rgA nil27) 133)).setCells w8.heap.size 0 vs8) vs8 YY := by
 have hB := (BlkR.new w8 nil27 133).setCells 0 vs8
 rw [ovl_all (by rw [nil27_len, hR.lv])] at hB
 have hb : Below w8.heap.size w8 ((w8.alloc (.cells (rgA nil27) 133)).setCells w8.heap.size 0 vs8) := (left_setCells _ w8.heap.size 0 vs8).bel (Nat.le_refl _) (below1 _ _)
 exact ⟨hB, ⟨hR.lv, hR.lx, fun i hi => ((hR.ow i hi).kept hb).mono (Nat.succ_le_of_lt hP)⟩⟩
theorem keepE2 {P : Nat} {w w8 : World} {vs8 : List Value} {YY : List (List Int)} (hP : P < w.heap.size) (hb8 : Below (w.alloc (.cells (rgA nil27) 133)).heap.size (w.alloc (.cells (rgA nil27) 133)).drew w8) (hR : RgO (w.alloc (.cells (rgA nil27) 133)).heap.size w8 vs8 YY) :
  BlkR (w8.setCells w.heap.size 0 vs8) w.heap.size vs8 133 ∧ RgO (P + 1) (w8.setCells w.heap.size 0 vs8) vs8 YY := by
 have h0 := (BlkR.new w nil27 133)
 have h1 : BlkR w8 w.heap.size nil27 133 := h0.below (w := (w.alloc (.cells (rgA nil27) 133)).drew) hb8 (by show _ < (w.alloc _).heap.size; rw [World.size_alloc]; exact Nat.lt_succ_self _)
 have hB := h1.setCells 0 vs8
 rw [ovl_all (by rw [nil27_len, hR.lv])] at hB
 have hL := left_setCells w8 w.heap.size 0 vs8
 exact ⟨hB, ⟨hR.lv, hR.lx, fun i hi => ((hR.ow i hi).left hL (by rw [World.size_alloc]; exact Nat.lt_succ_self _)).mono (by rw [World.size_alloc]; omega)⟩⟩
theorem store36 {ops : Array Oper} {rest : List Oper} {op : Oper} {a : Act} {w : World} {Q : Exit → Act → World → Prop} (hgd : op.guard = none) (x y : Operand) (ho : op.op = .store 133 x y)
  (P : Nat) (hx : a.eval x = .pointer (some ⟨P, 36, none⟩)) (vs : List Value) (hy : a.eval y = .agg (rgA vs)) (us : List Value) (I : In) (s : St) (h : DI P w us I s) (hl : vs.length = 27) (h1 : ∀ v ∈ vs, v.oneCell' = true)
  (hk : wpList Try.prog ops Q rest (a.put op.dst undef) (w.setCells P 36 vs)) : wpList Try.prog ops Q (op :: rest) a w := by
 refine wpList_store_mid hgd 133 x y ho P 36 (rgA vs) hx hy ?_ (by rw [rgA_size, hl]; exact size_regs) (all_oneCell_toArray h1) hk
 intro j hj
 rw [rgA_size] at hj
 exact ⟨by rw [h.cell (by omega)]; rfl, h.free _⟩
set_option maxRecDepth 100000 in
set_option maxHeartbeats 4000000 in
theorem doer_keep (P f g : Nat) (us : List Value) (I : In) (hI : InOk I) (s : St) (w : World) (h : DI P w us I s) (hfg : f ≤ g) (hgn : g ≤ I.n) :
  Calls Try.prog 229 #[.pointer (some ⟨P, 0, none⟩), .int .i64 (f : Int), .int .i64 (g : Int)] w (DPost P I (putEs I.X s.cm.b ((I.t.take g).drop f)) (if putEs I.X s.cm.b ((I.t.take g).drop f) = 0 then { s with Y := putYs I.X s.cm.b ((I.t.take g).drop f) } else s) w) := by
 have hT := h.sl hI
 have hR := h.rg hI
 have HS := Lib.hid hI.small
 have HI := Lib.hid hI
 have HN := Lib.hid hI.len
 have hcap := hI.cap; have htop := hI.top
 have HA0 := Lib.hid hI.none
 have c0 := h.c0
 have c30 := h.c30
 have rr := h.rr hI
 have HX := Lib.hid h
 have hPw := h.lt
 have hlv := hI.rgs.lv
 clear h hI
 obtain ⟨w0, a, n, c, t, k, vs, X⟩ := I
 obtain ⟨cm, O, p, Y, fk, fa, md, es⟩ := s
 obtain ⟨ct, rg, op, vb, ar⟩ := cm
 dsimp only at *
 obtain ⟨y, hy⟩ : ∃ y, (t.take g).drop f = y := ⟨_, rfl⟩
 rw [hy]
 have hcr := cut_run a n c f g hfg (by omega)
 have HL := Lib.hid (show y.length = g - f by rw [← hy, List.length_drop, List.length_take, HN.out]; omega)
 have hcut := hT.cutTo (c := c) f g (by rw [HN.out]; exact hcap) hfg (by rw [HN.out]; exact hgn)
 rw [hy] at hcut
 have HC0 := Lib.hid (show cutA a c f = none → g - f = 0 from fun hz => by have := HA0.out (cutA_none hz); omega)
 obtain ⟨aa, haa⟩ : ∃ aa, cutA a c f = aa := ⟨_, rfl⟩
 rw [haa] at hcr hcut HC0
 obtain ⟨E, hE⟩ : ∃ E, putEs X rg y = E := ⟨_, rfl⟩
 obtain ⟨YY, hYY⟩ : ∃ YY, putYs X rg y = YY := ⟨_, rfl⟩
 rw [hE, hYY]
 have PUT : ∀ w1, Below w.heap.size w w1 → Calls Try.prog 255 #[.agg vs.toArray, .int .i64 rg, .slice aa (g - f) (c - f)] w1 (PutPostO YY E w1) := fun w1 hb => by
  rw [← hE, ← hYY]
  exact reg_putO vs X rg aa (g - f) (c - f) y w1 (hR.below hb) HS.out (hcut.below hb) HL.out HC0.out (by omega)
 have HP := Lib.hid PUT
 have hu := under_regs
 have hz : (Try.prog.info? 133).map (·.size) = some vs.length := by rw [hlv]; exact size_regs
 have hal := alloc_regs
 clear hT hR hy hcut haa PUT hE hYY hgn
 go_enter Try.func229, Try.ntmps229
 go_upto_region 1 with fail
 go_cut [7, 8] (fun v e wx => ∃ B vs8, v = .pointer (some ⟨B, 0, none⟩) ∧ e = .int .i64 E ∧ w.heap.size ≤ B ∧ BlkR wx B vs8 133 ∧ RgO (P + 1) wx vs8 YY ∧ Below w.heap.size w wx)
 case first =>
  go_region_held3 (fun w' => w'.cell? ⟨P, 0, none⟩ = some (.slice a n c) ∧ w'.cell? ⟨P, 30, none⟩ = some (.int .i64 rg) ∧ w'.rangeAt P 2 vs ∧ Below w.heap.size w w') (first | exact ⟨c0, c30, rr, (Below.refl _ _).drew⟩ | assumption | exact keepKC hPw ‹_› ‹_› | exact keepKA hPw ‹_› _ | exact keepKS hPw ‹_› _ _ ‹_›)
   (first | (go_at_call 255; refine (HP.out w.drew (Below.refl _ _).drew).mono ?_; rintro e w8 ⟨vs8, rfl, hR8, hb8⟩; have hz8 : (Try.prog.info? 133).map (·.size) = some vs8.length := size_regs.trans (congrArg some hR8.lv.symm); have hl8 := hR8.lv; have ho8 := hR8.one; have ht8 := there_nil27 w8; have hq8 : w.heap.size ≤ w8.heap.size := hb8.size) | (go_at_call 255; refine (HP.out (w.alloc (.cells #[.slice none 0 0, .slice none 0 0, .slice none 0 0, .slice none 0 0, .slice none 0 0, .slice none 0 0, .slice none 0 0, .slice none 0 0, .slice none 0 0, .slice none 0 0, .slice none 0 0, .slice none 0 0, .slice none 0 0, .slice none 0 0, .slice none 0 0, .slice none 0 0, .slice none 0 0, .slice none 0 0, .slice none 0 0, .slice none 0 0, .slice none 0 0, .slice none 0 0, .slice none 0 0, .slice none 0 0, .slice none 0 0, .slice none 0 0, .slice none 0 0] 133)).drew (below1 w _).drew).mono ?_; rintro e w8 ⟨vs8, rfl, hR8, hb8⟩; have hz8 : (Try.prog.info? 133).map (·.size) = some vs8.length := size_regs.trans (congrArg some hR8.lv.symm); have hl8 := hR8.lv; have ho8 := hR8.one; have ht8 : w8.there w.heap.size 0 27 := there_below (w := (w.alloc (.cells #[.slice none 0 0, .slice none 0 0, .slice none 0 0, .slice none 0 0, .slice none 0 0, .slice none 0 0, .slice none 0 0, .slice none 0 0, .slice none 0 0, .slice none 0 0, .slice none 0 0, .slice none 0 0, .slice none 0 0, .slice none 0 0, .slice none 0 0, .slice none 0 0, .slice none 0 0, .slice none 0 0, .slice none 0 0, .slice none 0 0, .slice none 0 0, .slice none 0 0, .slice none 0 0, .slice none 0 0, .slice none 0 0, .slice none 0 0, .slice none 0 0] 133)).drew) (there_nil27 w) (by show _ < (w.alloc _).heap.size; rw [World.size_alloc]; exact Nat.lt_succ_self _) hb8; have hq8 : w.heap.size ≤ w.heap.size := Nat.le_refl _))
  all_goals
   go_wp2
   go_meet
   rename_i hHeld
   first
    | exact ⟨_, _, rfl, rfl, hq8, (keepE1 hPw hR8).1, (keepE1 hPw hR8).2, hHeld.2.2.2⟩
    | exact ⟨_, _, rfl, rfl, hq8, (keepE2 hPw hb8 hR8).1, (keepE2 hPw hb8 hR8).2, hHeld.2.2.2⟩
 obtain ⟨B, vs8, rfl, rfl, hq8, hB8, hR8, hb8⟩ := hcut
 have h8 := HX.out.to hb8
 have hl8 := hR8.lv
 have ho8 := hR8.one
 clear HP HC0 HL hcr hu hz hal c0 c30 rr
 by_cases h0 : E = 0
 ·subst h0
  have h9 := h8.setRegs vs8 YY hR8
  have H9 := Lib.hid h9
  have hL := left_setCells wc P 36 vs8
  have HL9 := Lib.hid hL
  clear h9 hL
  go_wp2_with (first | (refine regs_load rfl _ rfl B rfl vs8 _ hB8 hl8 ?_) | (refine store36 rfl _ _ rfl P rfl vs8 rfl _ _ _ h8 hl8 ho8 ?_))
  go_ret
  exact ⟨rfl, ⟨_, H9.out⟩, (Asd.of hb8).trans (Asd.setCells vs8)⟩
 ·have n0 : (E == 0) = false := by simpa using h0
  have H8 := Lib.hid h8
  have HNE := Lib.hid h0
  clear h8 h0
  go_wp2
  go_ret
  exact ⟨rfl, ⟨_, H8.out⟩, Asd.of hb8⟩
structure RunP (l : List Int) (big : Bool) (k f t : Nat) : Prop where
 lo : f ≤ k
 hi : k < t
 len : t ≤ l.length
 same : ∀ j, f ≤ j → j < t → kindS (ix l j) big = kindS (ix l k) big
 left : f = 0 ∨ kindS (ix l (f - 1)) big ≠ kindS (ix l k) big
 right : t = l.length ∨ kindS (ix l t) big ≠ kindS (ix l k) big
theorem RunP.one {l : List Int} {big : Bool} {k f t f' t' : Nat} (h : RunP l big k f t) (h' : RunP l big k f' t') : f = f' ∧ t = t' := by
 obtain ⟨a1, a2, a3, a4, a5, a6⟩ := h
 obtain ⟨b1, b2, b3, b4, b5, b6⟩ := h'
 constructor
 ·rcases Nat.lt_trichotomy f f' with h | h | h
  ·rcases b5 with rfl | b5
   ·omega
   ·exact absurd (a4 (f' - 1) (by omega) (by omega)) b5
  ·exact h
  ·rcases a5 with rfl | a5
   ·omega
   ·exact absurd (b4 (f - 1) (by omega) (by omega)) a5
 ·rcases Nat.lt_trichotomy t t' with h | h | h
  ·rcases a6 with rfl | a6
   ·omega
   ·exact absurd (b4 t (by omega) h) a6
  ·exact h
  ·rcases b6 with rfl | b6
   ·omega
   ·exact absurd (a4 t' (by omega) h) b6
def RunPost (l : List Int) (big : Bool) (k : Nat) (w : World) (e : Ending) (w' : World) : Prop :=
 ∃ f t : Nat, e = .returned (.agg #[.int .i64 (f : Int), .int .i64 (t : Int)]) ∧ RunP l big k f t ∧ Below w.heap.size w w'
set_option maxRecDepth 100000 in
set_option maxHeartbeats 1000000 in
theorem object_run (a : Option Addr) (n c : Nat) (l : List Int) (big : Bool) (k : Nat) (w : World) (ha : Ints w a l) (hn : l.length = n) (h2 : n ≤ 4096) (hk : k < n) :
  Calls Try.prog 257 #[.slice a n c, .int .i64 (k : Int), .bool big] w (RunPost l big k w) := by
 have HN := Lib.hid hn; clear hn
 obtain ⟨b1, o1, rfl, hc0⟩ := ha.at (k := k) (by rw [HN.out]; exact hk)
 have HC := Lib.hid (show ∀ i, i < n → w.cell? ⟨b1, o1 + i, none⟩ = some (.int .i64 (ix l i)) from fun i hi => hc0 i (by rw [HN.out]; exact hi))
 clear hc0
 have hb := below2 w (.cells #[.int .i64 0, .int .i64 0] 302) (.cells #[.int .i64 (k : Int), .int .i64 (k : Int)] 302)
 have hA := (Blk.new w #[.int .i64 0, .int .i64 0] 302).alloc (.cells #[.int .i64 (k : Int), .int .i64 (k : Int)] 302)
 have hS := Blk.new (w.alloc (.cells #[.int .i64 0, .int .i64 0] 302)) #[.int .i64 (k : Int), .int .i64 (k : Int)] 302
 rw [World.size_alloc] at hS
 have ck := below_keeps hb _ _ (HC.out k hk)
 have ik : (k : Int) < (n : Int) := by omega
 go_enter Try.func257, Try.ntmps257
 go_wp2_with fail
 refine (word_kindOf (ix l k) big _).mono ?_
 rintro e w' ⟨rfl, hww⟩
 rw [← hww]
 clear hww
 generalize (w.alloc (.cells #[.int .i64 0, .int .i64 0] 302)).alloc (.cells #[.int .i64 (k : Int), .int .i64 (k : Int)] 302) = w2 at *
 obtain ⟨kd, hkd⟩ : ∃ kd, kindS (ix l k) big = kd := ⟨_, rfl⟩
 rw [hkd]
 have HKD := Lib.hid hkd
 clear hkd ck
 go_upto_block 0 with fail
 go_cut [] (fun wx => ∃ f : Nat, f ≤ k ∧ (∀ j, f ≤ j → j ≤ k → kindS (ix l j) big = kd) ∧ (f = 0 ∨ kindS (ix l (f - 1)) big ≠ kd) ∧ Blk wx w.heap.size #[.int .i64 0, .int .i64 0] 302 ∧ Blk wx (w.heap.size + 1) #[.int .i64 (f : Int), .int .i64 (k : Int)] 302 ∧ Below w.heap.size w wx)
 case first =>
  go_wp2
  go_loopg [] k (fun g wr => ∃ f : Nat, f ≤ g ∧ f ≤ k ∧ Aside ((∀ j, f ≤ j → j ≤ k → kindS (ix l j) big = kd) ∧ Blk wr w.heap.size #[.int .i64 0, .int .i64 0] 302 ∧ Blk wr (w.heap.size + 1) #[.int .i64 (f : Int), .int .i64 (k : Int)] 302 ∧ Below w.heap.size w wr))
  case atStart =>
   refine ⟨k, by omega, by omega, ?_⟩
   show _ ∧ _
   refine ⟨fun j h1 h2 => ?_, hA, hS, hb⟩
   obtain rfl : j = k := by omega
   exact HKD.out
  case round =>
   obtain ⟨f, hfg, hfk, hrest⟩ := hrel
   obtain ⟨hsame, hAr, hSr, hbr⟩ := show _ ∧ _ from hrest
   clear hrest hA hS hb
   have HSA := Lib.hid hsame
   clear hsame
   obtain ⟨c0, c1, e0, e1⟩ := hSr.two
   by_cases hf0 : f = 0
   ·subst hf0
    go_wp2
    go_meet
    exact ⟨0, by omega, HSA.out, .inl rfl, hAr, hSr, hbr⟩
   ·have cj := HC.out (f - 1) (by omega)
    rw [← hbr.cell (cell_lt cj)] at cj
    have i1 : (0 : Int) < (f : Int) := by omega
    have i2 : ((f : Int) - 1).toNat = f - 1 := by omega
    have i3 : (0 : Int) ≤ (f : Int) - 1 := by omega
    have i4 : (f : Int) - 1 < (n : Int) := by omega
    go_wp2_with fail
    refine (word_kindOf (ix l (f - 1)) big _).mono ?_
    rintro e w' ⟨rfl, rfl⟩
    by_cases hsm : kindS (ix l (f - 1)) big = kd
    ·have HSM := Lib.hid hsm
     rw [hsm]
     clear hsm
     go_wp2
     go_roundg (f - 1)
     case measure => omega
     case rel =>
      refine ⟨f - 1, by omega, by omega, ?_⟩
      show _ ∧ _
      refine ⟨fun j h1 h2 => ?_, hAr.other (by show w.heap.size ≠ w.heap.size + 1; omega) _, ?_, hbr.setCell (p := ⟨w.heap.size + 1, 0, none⟩) (Nat.le_succ _) _⟩
      ·by_cases e : j = f - 1
       ·rw [e]; exact HSM.out
       ·exact HSA.out j (by omega) h2
      ·rw [show ((f - 1 : Nat) : Int) = (f : Int) - 1 from by omega]; exact hSr.set 0 (.int .i64 ((f : Int) - 1))
    ·have b1' : (kindS (ix l (f - 1)) big == kd) = false := by simpa using hsm
     have HSM := Lib.hid hsm
     clear hsm
     go_wp2
     go_meet
     exact ⟨f, hfk, HSA.out, .inr HSM.out, hAr, hSr, hbr⟩
 clear hA hS hb
 obtain ⟨f, hfk, hsame, hleft, hA, hS, hb⟩ := hcut
 have HSA := Lib.hid hsame; have HLE := Lib.hid hleft
 clear hsame hleft
 go_wp2
 go_loopg [] (n - k) (fun g wr => ∃ t : Nat, n - t ≤ g ∧ k ≤ t ∧ t ≤ n ∧ Aside ((∀ j, f ≤ j → j < t → kindS (ix l j) big = kd) ∧ Blk wr w.heap.size #[.int .i64 0, .int .i64 0] 302 ∧ Blk wr (w.heap.size + 1) #[.int .i64 (f : Int), .int .i64 (t : Int)] 302 ∧ Below w.heap.size w wr))
 case atStart =>
  refine ⟨k, by omega, by omega, by omega, ?_⟩
  show _ ∧ _
  exact ⟨fun j h1 h2 => HSA.out j h1 (by omega), hA, hS, hb⟩
 case round =>
  clear hA hS hb
  obtain ⟨t, htg, hkt, htn, hrest⟩ := hrel
  obtain ⟨hsame, hAr, hSr, hbr⟩ := show _ ∧ _ from hrest
  clear hrest
  have HST := Lib.hid hsame
  clear hsame
  obtain ⟨c0, c1, e0, e1⟩ := hSr.two
  obtain ⟨d0, d1, f0, f1⟩ := hAr.two
  by_cases hlt : t < n
  ·have cj := HC.out t hlt
   rw [← hbr.cell (cell_lt cj)] at cj
   have i1 : (t : Int) < (n : Int) := by omega
   go_wp2_with fail
   refine (word_kindOf (ix l t) big _).mono ?_
   rintro e w' ⟨rfl, rfl⟩
   by_cases hsm : kindS (ix l t) big = kd
   ·have HSM := Lib.hid hsm
    rw [hsm]
    clear hsm
    go_wp2
    go_roundg (n - (t + 1))
    case measure => omega
    case rel =>
     refine ⟨t + 1, by omega, by omega, by omega, ?_⟩
     show _ ∧ _
     refine ⟨fun j h1 h2 => ?_, hAr.other (by show w.heap.size ≠ w.heap.size + 1; omega) _, hSr.set 1 (.int .i64 ((t + 1 : Nat) : Int)), hbr.setCell (p := ⟨w.heap.size + 1, 1, none⟩) (Nat.le_succ _) _⟩
     by_cases e : j = t
     ·rw [e]; exact HSM.out
     ·exact HST.out j h1 (by omega)
   ·have b1' : (kindS (ix l t) big == kd) = false := by simpa using hsm
    have HSM := Lib.hid hsm
    have hkt2 : k < t := by
     rcases Nat.lt_or_ge k t with h | h
     ·exact h
     ·obtain rfl : t = k := by omega
      exact absurd HKD.out hsm
    clear hsm
    go_wp2
    obtain ⟨y0, y1, -, -⟩ := Blk.two ((hAr.set 0 (.int .i64 (f : Int))).set 1 (.int .i64 (t : Int)))
    refine bodyPost_ret (v := .agg #[.int .i64 (f : Int), .int .i64 (t : Int)]) (by simp [results, Try.results257, go_sem, y0, y1]) rfl ?_
    exact ⟨f, t, rfl, ⟨hfk, hkt2, by rw [HN.out]; omega, fun j h1 h2 => by rw [HKD.out]; exact HST.out j h1 h2, by rw [HKD.out]; exact HLE.out, .inr (by rw [HKD.out]; exact HSM.out)⟩, (hbr.setCell (p := ⟨w.heap.size, 0, none⟩) (Nat.le_refl _) _).setCell (p := ⟨w.heap.size, 1, none⟩) (Nat.le_refl _) _⟩
  ·obtain rfl : n = t := by omega
   go_wp2
   obtain ⟨y0, y1, -, -⟩ := Blk.two ((hAr.set 0 (.int .i64 (f : Int))).set 1 (.int .i64 (n : Int)))
   refine bodyPost_ret (v := .agg #[.int .i64 (f : Int), .int .i64 (n : Int)]) (by simp [results, Try.results257, go_sem, y0, y1]) rfl ?_
   exact ⟨f, n, rfl, ⟨hfk, hk, by rw [HN.out]; omega, fun j h1 h2 => by rw [HKD.out]; exact HST.out j h1 h2, by rw [HKD.out]; exact HLE.out, .inl HN.out.symm⟩, (hbr.setCell (p := ⟨w.heap.size, 0, none⟩) (Nat.le_refl _) _).setCell (p := ⟨w.heap.size, 1, none⟩) (Nat.le_refl _) _⟩
def RunOfPost (l : List Int) (big : Bool) (k : Nat) (w : World) (e : Ending) (w' : World) : Prop :=
 ∃ f t : Nat, e = .returned (.tuple #[.int .i64 (f : Int), .int .i64 (t : Int)]) ∧ RunP l big k f t ∧ Below w.heap.size w w'
set_option maxRecDepth 100000 in
set_option maxHeartbeats 1000000 in
theorem ref_runOf (a : Option Addr) (n c : Nat) (l : List Int) (big : Bool) (k : Nat) (w : World) (ha : Ints w a l) (hn : l.length = n) (h2 : n ≤ 4096) (hk : k < n) :
  Calls Try.prog 259 #[.slice a n c, .int .i64 (k : Int), .bool big] w (RunOfPost l big k w) := by
 have HN := Lib.hid hn; clear hn
 obtain ⟨b1, o1, rfl, hc0⟩ := ha.at (k := k) (by rw [HN.out]; exact hk)
 have HC := Lib.hid (show ∀ i, i < n → w.cell? ⟨b1, o1 + i, none⟩ = some (.int .i64 (ix l i)) from fun i hi => hc0 i (by rw [HN.out]; exact hi))
 clear hc0
 have ck := HC.out k hk
 have ik : (k : Int) < (n : Int) := by omega
 obtain ⟨kd, hkd⟩ : ∃ kd, kindS (ix l k) big = kd := ⟨_, rfl⟩
 have HKD := Lib.hid hkd
 clear hkd
 go_enter Try.func259, Try.ntmps259
 go_upto_block 0 with fail
 go_cut [8, 9] (fun v u wx => ∃ f : Nat, v = .int .i64 (f : Int) ∧ u = .int .i64 ((k : Int) + 1) ∧ f ≤ k ∧ (∀ j, f ≤ j → j ≤ k → kindS (ix l j) big = kd) ∧ (f = 0 ∨ kindS (ix l (f - 1)) big ≠ kd) ∧ Below w.heap.size w wx)
 case first =>
  go_wp2
  go_loopw [8] (fun v wr => ∃ f : Nat, v = .int .i64 (f : Int) ∧ f ≤ k ∧ (∀ j, f ≤ j → j ≤ k → kindS (ix l j) big = kd) ∧ Below w.heap.size w wr) (fun v _ => (intOf v).toNat)
  case atStart =>
   refine ⟨k, rfl, by omega, fun j h1 h2 => ?_, Below.refl _ _⟩
   obtain rfl : j = k := by omega
   exact HKD.out
  case round =>
   obtain ⟨f, rfl, hfk, hsame, hbr⟩ := hrel
   have HSA := Lib.hid hsame
   clear hsame
   by_cases hf0 : f = 0
   ·subst hf0
    go_wp2
    go_quiet (fail)
    go_wp2
    go_meet
    exact ⟨0, rfl, rfl, by omega, HSA.out, .inl rfl, below_drewN hbr _⟩
   ·have cj := HC.out (f - 1) (by omega)
    rw [← hbr.cell (cell_lt cj)] at cj
    have ck' := ck
    rw [← hbr.cell (cell_lt ck)] at ck'
    have i0 : decide (0 < f) = true := by simp; omega
    have i2 : ((f : Int) - 1).toNat = f - 1 := by omega
    have i3 : (0 : Int) ≤ (f : Int) - 1 := by omega
    have i4 : (f : Int) - 1 < (n : Int) := by omega
    go_wp2
    go_quiet ((go_at_call 260; exact Calls.quiet_of_same ((ref_kindOf _ _ _).mono fun _ _ ⟨h, h'⟩ => ⟨h, h'.symm⟩)))
    all_goals
     by_cases hsm : kindS (ix l (f - 1)) big = kindS (ix l k) big
     ·have HSM := Lib.hid (show kindS (ix l (f - 1)) big = kd by rw [hsm]; exact HKD.out)
      have b1' : (kindS (ix l (f - 1)) big == kindS (ix l k) big) = true := by simpa using hsm
      clear hsm
      go_wp2
      go_roundw
      case rel =>
       refine ⟨f - 1, by go_num, by omega, fun j h1 h2 => ?_, below_drewN hbr _⟩
       by_cases e : j = f - 1
       ·rw [e]; exact HSM.out
       ·exact HSA.out j (by omega) h2
      case measure => simp [intOf]; omega
     ·have b1' : (kindS (ix l (f - 1)) big == kindS (ix l k) big) = false := by simpa using hsm
      have HSM := Lib.hid (show kindS (ix l (f - 1)) big ≠ kd by rw [← HKD.out]; exact hsm)
      clear hsm
      go_wp2
      go_meet
      exact ⟨f, rfl, rfl, hfk, HSA.out, .inr HSM.out, below_drewN hbr _⟩
 obtain ⟨f, rfl, rfl, hfk, hsame, hleft, hb⟩ := hcut
 have HSA := Lib.hid hsame; have HLE := Lib.hid hleft
 clear hsame hleft
 go_wp2
 go_loopw [9] (fun v wr => ∃ t : Nat, v = .int .i64 (t : Int) ∧ k < t ∧ t ≤ n ∧ (∀ j, f ≤ j → j < t → kindS (ix l j) big = kd) ∧ Below w.heap.size w wr) (fun v _ => n - (intOf v).toNat)
 case atStart => exact ⟨k + 1, by go_num, by omega, by omega, fun j h1 h2 => HSA.out j h1 (by omega), hb⟩
 case round =>
  clear hb
  obtain ⟨t, rfl, hkt, htn, hsame, hbr⟩ := hrel
  have HST := Lib.hid hsame
  clear hsame
  by_cases hlt : t < n
  ·have cj := HC.out t hlt
   rw [← hbr.cell (cell_lt cj)] at cj
   have ck' := ck
   rw [← hbr.cell (cell_lt ck)] at ck'
   have i0 : decide (t < n) = true := by simp; omega
   have i1 : (t : Int) < (n : Int) := by omega
   go_wp2
   go_quiet ((go_at_call 260; exact Calls.quiet_of_same ((ref_kindOf _ _ _).mono fun _ _ ⟨h, h'⟩ => ⟨h, h'.symm⟩)))
   all_goals
    by_cases hsm : kindS (ix l t) big = kindS (ix l k) big
    ·have HSM := Lib.hid (show kindS (ix l t) big = kd by rw [hsm]; exact HKD.out)
     have b1' : (kindS (ix l t) big == kindS (ix l k) big) = true := by simpa using hsm
     clear hsm
     go_wp2
     go_roundw
     case rel =>
      refine ⟨t + 1, by go_num, by omega, by omega, fun j h1 h2 => ?_, below_drewN hbr _⟩
      by_cases e : j = t
      ·rw [e]; exact HSM.out
      ·exact HST.out j h1 (by omega)
     case measure => simp [intOf]; omega
    ·have b1' : (kindS (ix l t) big == kindS (ix l k) big) = false := by simpa using hsm
     have HSM := Lib.hid hsm
     clear hsm
     go_wp2
     go_ret2
     exact ⟨f, t, rfl, ⟨hfk, hkt, by rw [HN.out]; omega, fun j h1 h2 => by rw [HKD.out]; exact HST.out j h1 h2, by rw [HKD.out]; exact HLE.out, .inr HSM.out⟩, below_drewN hbr _⟩
  ·obtain rfl : n = t := by omega
   have i0 : decide (n < n) = false := by simp
   go_wp2
   go_quiet (fail)
   go_wp2
   go_ret2
   exact ⟨f, n, rfl, ⟨hfk, hkt, by rw [HN.out]; omega, fun j h1 h2 => by rw [HKD.out]; exact HST.out j h1 h2, by rw [HKD.out]; exact HLE.out, .inl HN.out.symm⟩, below_drewN hbr _⟩
def WordsP (l : List Int) (big around : Bool) (k f t : Nat) : Prop :=
 ∃ f0 t0, RunP l big k f0 t0 ∧
  (if around = true ∧ t0 < l.length ∧ (kindS (ix l k) big = 0 ∨ kindS (ix l t0) big = 0) then f = f0 ∧ ∃ f1, RunP l big t0 f1 t
   else if around = true ∧ kindS (ix l k) big ≠ 0 ∧ 0 < f0 ∧ kindS (ix l (f0 - 1)) big = 0 then t = t0 ∧ ∃ t1, RunP l big (f0 - 1) f t1
   else f = f0 ∧ t = t0)
theorem WordsP.one {l : List Int} {big around : Bool} {k f t f' t' : Nat} (h : WordsP l big around k f t) (h' : WordsP l big around k f' t') : f = f' ∧ t = t' := by
 obtain ⟨f0, t0, h1, h2⟩ := h
 obtain ⟨g0, u0, h3, h4⟩ := h'
 obtain ⟨rfl, rfl⟩ := h1.one h3
 split at h2
 ·rename_i hc
  rw [if_pos hc] at h4
  obtain ⟨rfl, f1, h5⟩ := h2
  obtain ⟨rfl, f2, h6⟩ := h4
  exact ⟨rfl, (h5.one h6).2⟩
 ·rename_i hc
  rw [if_neg hc] at h4
  split at h2
  ·rename_i hd
   rw [if_pos hd] at h4
   obtain ⟨rfl, f1, h5⟩ := h2
   obtain ⟨rfl, f2, h6⟩ := h4
   exact ⟨(h5.one h6).1, rfl⟩
  ·rename_i hd
   rw [if_neg hd] at h4
   exact ⟨h2.1.trans h4.1.symm, h2.2.trans h4.2.symm⟩
def WordsPost (l : List Int) (big around : Bool) (k : Nat) (w : World) (e : Ending) (w' : World) : Prop :=
 ∃ f t : Nat, e = .returned (.tuple #[.agg #[.int .i64 (f : Int), .int .i64 (t : Int)], .int .i64 0]) ∧ WordsP l big around k f t ∧ t ≤ l.length ∧ Below w.heap.size w w'
set_option maxRecDepth 100000 in
theorem object_words_none (c k : Nat) (a : Option Addr) (around big : Bool) (w : World) :
  Calls Try.prog 231 #[.slice a 0 c, .int .i64 (k : Int), .bool around, .bool big] w fun e w' => e = .returned (.tuple #[.agg #[.int .i64 0, .int .i64 0], .int .i64 6]) ∧ Below w.heap.size w w' := by
 have hA := Blk.new w #[.int .i64 0, .int .i64 0] 302
 obtain ⟨y0, y1, -, -⟩ := hA.two
 have hb := below1 w (.cells #[.int .i64 0, .int .i64 0] 302)
 go_enter Try.func231, Try.ntmps231
 go_wp2
 refine bodyPost_ret (v := .tuple #[.agg #[.int .i64 0, .int .i64 0], .int .i64 6]) (by simp [results, Try.results231, go_sem, y0, y1]) rfl ?_
 exact ⟨rfl, hb⟩
set_option maxRecDepth 100000 in
set_option maxHeartbeats 1000000 in
theorem object_words_in (a : Option Addr) (n c : Nat) (l : List Int) (big : Bool) (k : Nat) (w : World) (ha : Ints w a l) (hn : l.length = n) (h2 : n ≤ 4096) (hk : k < n) :
  Calls Try.prog 231 #[.slice a n c, .int .i64 (k : Int), .bool false, .bool big] w (WordsPost l big false k w) := by
 have HN := Lib.hid hn; clear hn
 have hA := Blk.new w #[.int .i64 0, .int .i64 0] 302
 have hb := below1 w (.cells #[.int .i64 0, .int .i64 0] 302)
 have hn0 : ¬ n = 0 := by omega
 have hn1 : ((n : Int) == 0) = false := by simp; omega
 go_enter Try.func231, Try.ntmps231
 go_wp2_with fail
 refine (object_run a n c l big k _ (ha.below hb) HN.out h2 hk).mono ?_
 rintro e w2 ⟨f, t, rfl, hR, hb2⟩
 have hA2 := hA.below hb2 hA.lt
 have hbb := below_then hb hb.size hb2
 obtain ⟨d0, d1, g0, g1⟩ := hA2.two
 have hz := hA2.lt
 have htl := hR.len
 have HR := Lib.hid hR
 clear hR
 go_wp2
 have hA3 := Blk.alloc ((hA2.set 0 (.int .i64 (f : Int))).set 1 (.int .i64 (t : Int))) (.cells #[.int .i64 (f : Int), .int .i64 (t : Int)] 302)
 obtain ⟨y0, y1, -, -⟩ := Blk.two hA3
 refine bodyPost_ret (v := .tuple #[.agg #[.int .i64 (f : Int), .int .i64 (t : Int)], .int .i64 0]) (by simp [results, Try.results231, go_sem, y0, y1]) rfl ?_
 refine ⟨f, t, rfl, ⟨f, t, HR.out, ?_⟩, htl, ?_⟩
 ·rw [if_neg (by simp), if_neg (by simp)]; exact ⟨rfl, rfl⟩
 ·have hb5 := (hbb.setCell (p := ⟨w.heap.size, 0, none⟩) (Nat.le_refl _) (.int .i64 (f : Int))).setCell (p := ⟨w.heap.size, 1, none⟩) (Nat.le_refl _) (.int .i64 (t : Int))
  exact hb5.alloc hb5.size _
theorem spanField1 (x y : Int) (w : World) : (Instr.field 302 (.agg #[.int .i64 x, .int .i64 y]) 1).run Try.prog w = .ok (.int .i64 y) w := by kernel_rfl
theorem spanField0 (x y : Int) (w : World) : (Instr.field 302 (.agg #[.int .i64 x, .int .i64 y]) 0).run Try.prog w = .ok (.int .i64 x) w := by kernel_rfl
set_option maxRecDepth 100000 in
set_option maxHeartbeats 2000000 in
theorem object_words_around (a : Option Addr) (n c : Nat) (l : List Int) (big : Bool) (k : Nat) (w : World) (ha : Ints w a l) (hn : l.length = n) (h2 : n ≤ 4096) (hk : k < n) :
  Calls Try.prog 231 #[.slice a n c, .int .i64 (k : Int), .bool true, .bool big] w (WordsPost l big true k w) := by
 have HN := Lib.hid hn; clear hn
 have hA := Blk.new w #[.int .i64 0, .int .i64 0] 302
 have hb := below1 w (.cells #[.int .i64 0, .int .i64 0] 302)
 have hn0 : ¬ n = 0 := by omega
 have hn1 : ((n : Int) == 0) = false := by simp; omega
 have hsf1 := spanField1
 have hsf0 := spanField0
 go_enter Try.func231, Try.ntmps231
 go_wp2_with fail
 refine (object_run a n c l big k _ (ha.below hb) HN.out h2 hk).mono ?_
 rintro e w2 ⟨f, t, rfl, hR, hb2⟩
 have hA2 := hA.below hb2 hA.lt
 have hbb := below_then hb hb.size hb2
 have htl := hR.len
 have hfk := hR.lo
 have HR := Lib.hid hR
 clear hR hA hb hb2
 go_upto_region 6 with fail
 have hS := Blk.new w2 #[.int .i64 (f : Int), .int .i64 (t : Int)] 302
 have hA3 := hA2.alloc (.cells #[.int .i64 (f : Int), .int .i64 (t : Int)] 302)
 have hb3 := hbb.alloc hbb.size (.cells #[.int .i64 (f : Int), .int .i64 (t : Int)] 302)
 have hne : w.heap.size ≠ w2.heap.size := by have := hA2.lt; omega
 have hle := hbb.size
 generalize w2.alloc (.cells #[.int .i64 (f : Int), .int .i64 (t : Int)] 302) = w3 at *
 generalize w2.heap.size = B3 at *
 clear hA2 hbb
 have ha3 := ha.below hb3
 obtain ⟨b1, o1, rfl, hc0⟩ := ha3.at (k := k) (by rw [HN.out]; exact hk)
 have HC := Lib.hid (show ∀ i, i < n → w3.cell? ⟨b1, o1 + i, none⟩ = some (.int .i64 (ix l i)) from fun i hi => hc0 i (by rw [HN.out]; exact hi))
 clear hc0
 have ck := HC.out k hk
 have ik : (k : Int) < (n : Int) := by omega
 go_wp2_with fail
 refine (word_kindOf (ix l k) big _).mono ?_
 rintro e w' ⟨rfl, rfl⟩
 obtain ⟨bl, hbl⟩ : ∃ bl : Bool, (kindS (ix l k) big == 0) = bl := ⟨_, rfl⟩
 have HBL := Lib.hid hbl
 obtain ⟨c0, c1, e0, e1⟩ := hS.two
 obtain ⟨d0, d1, f0, f1⟩ := hA3.two
 go_upto_region 7 with fail
 obtain ⟨C1, hC1⟩ : ∃ C1 : Bool, C1 = decide (t < n ∧ (kindS (ix l k) big = 0 ∨ kindS (ix l t) big = 0)) := ⟨_, rfl⟩
 have HC1 := Lib.hid hC1
 clear hC1
 obtain ⟨W3, hW3⟩ : ∃ W3, W3 = w3 := ⟨_, rfl⟩
 go_cut [30] (fun v wx => v = .bool C1 ∧ wx = W3)
 case first =>
  by_cases hlt : t < n
  ·have i1 : (t : Int) < (n : Int) := by omega
   rcases bl with _ | _
   ·have hbk : kindS (ix l k) big ≠ 0 := by simpa using hbl
    have cj := HC.out t hlt
    clear hbl
    go_wp2_with fail
    refine (word_kindOf (ix l t) big _).mono ?_
    rintro e w' ⟨rfl, rfl⟩
    by_cases hkt : kindS (ix l t) big = 0
    ·have hb1 : C1 = true := by rw [HC1.out]; simp [hlt, hkt]
     rw [hkt]
     go_wp2
     go_meet
     exact ⟨by rw [hb1], hW3.symm⟩
    ·have hb1 : C1 = false := by rw [HC1.out]; simp [hlt, hkt, hbk]
     have g1' : (kindS (ix l t) big == 0) = false := by simpa using hkt
     clear hkt
     go_wp2
     go_meet
     exact ⟨by rw [hb1], hW3.symm⟩
   ·have hbk : kindS (ix l k) big = 0 := by simpa using hbl
    have hb1 : C1 = true := by rw [HC1.out]; simp [hlt, hbk]
    clear hbl hbk
    go_wp2
    go_meet
    exact ⟨by rw [hb1], hW3.symm⟩
  ·have hb1 : C1 = false := by rw [HC1.out]; simp [hlt]
   clear hbl
   go_wp2
   go_meet
   exact ⟨by rw [hb1], hW3.symm⟩
 obtain ⟨rfl, hw⟩ := hcut
 obtain rfl : w3 = wc := (hw.trans hW3).symm
 clear hw hW3 hbl
 have hl1 : l.length = n := HN.out
 rcases hC1 : C1 with _ | _
 ·have HNC := Lib.hid (show ¬ (t < n ∧ (kindS (ix l k) big = 0 ∨ kindS (ix l t) big = 0)) by have := HC1.out; rw [hC1] at this; simpa using this.symm)
  subst hC1
  clear hl1
  go_upto_region 9 with fail
  obtain ⟨C2, hC2⟩ : ∃ C2 : Bool, C2 = decide (kindS (ix l k) big ≠ 0 ∧ 0 < f ∧ kindS (ix l (f - 1)) big = 0) := ⟨_, rfl⟩
  have HC2 := Lib.hid hC2
  clear hC2
  obtain ⟨W3, hW3⟩ : ∃ W3, W3 = w3 := ⟨_, rfl⟩
  go_cut [56] (fun v wx => v = .bool C2 ∧ wx = W3)
  case first =>
   have hbl := HBL.out
   rcases bl with _ | _
   ·have hbk : kindS (ix l k) big ≠ 0 := by simpa using hbl
    clear hbl
    by_cases hf0 : f = 0
    ·subst hf0
     have hb1 : C2 = false := by rw [HC2.out]; simp
     go_wp2
     go_meet
     exact ⟨by rw [hb1], hW3.symm⟩
    ·have cj := HC.out (f - 1) (by omega)
     have i1 : (0 : Int) < (f : Int) := by omega
     have i2 : ((f : Int) - 1).toNat = f - 1 := by omega
     have i3 : (0 : Int) ≤ (f : Int) - 1 := by omega
     have i4 : (f : Int) - 1 < (n : Int) := by omega
     go_wp2_with fail
     refine (word_kindOf (ix l (f - 1)) big _).mono ?_
     rintro e w' ⟨rfl, rfl⟩
     by_cases hkt : kindS (ix l (f - 1)) big = 0
     ·have hb1 : C2 = true := by rw [HC2.out]; simp [hkt, hbk]; omega
      rw [hkt]
      go_wp2
      go_meet
      exact ⟨by rw [hb1], hW3.symm⟩
     ·have hb1 : C2 = false := by rw [HC2.out]; simp [hkt]
      have g1' : (kindS (ix l (f - 1)) big == 0) = false := by simpa using hkt
      clear hkt
      go_wp2
      go_meet
      exact ⟨by rw [hb1], hW3.symm⟩
   ·have hbk : kindS (ix l k) big = 0 := by simpa using hbl
    have hb1 : C2 = false := by rw [HC2.out]; simp [hbk]
    clear hbl hbk
    go_wp2
    go_meet
    exact ⟨by rw [hb1], hW3.symm⟩
  obtain ⟨rfl, hw⟩ := hcut
  obtain rfl : w3 = wc := (hw.trans hW3).symm
  clear hw hW3
  rcases hC2 : C2 with _ | _
  ·have HND := Lib.hid (show ¬ (kindS (ix l k) big ≠ 0 ∧ 0 < f ∧ kindS (ix l (f - 1)) big = 0) by have := HC2.out; rw [hC2] at this; simpa using this.symm)
   subst hC2
   go_wp2
   obtain ⟨z0, z1, -, -⟩ := Blk.two ((hA3.set 0 (.int .i64 (f : Int))).set 1 (.int .i64 (t : Int)))
   refine bodyPost_ret (v := .tuple #[.agg #[.int .i64 (f : Int), .int .i64 (t : Int)], .int .i64 0]) (by simp [results, Try.results231, go_sem, z0, z1]) rfl ?_
   exact ⟨f, t, rfl, ⟨f, t, HR.out, by rw [if_neg (by rw [HN.out]; intro h; exact HNC.out h.2), if_neg (by intro h; exact HND.out h.2)]; exact ⟨rfl, rfl⟩⟩, htl, (hb3.setCell (p := ⟨w.heap.size, 0, none⟩) (Nat.le_refl _) _).setCell (p := ⟨w.heap.size, 1, none⟩) (Nat.le_refl _) _⟩
  ·have HND := Lib.hid (show (kindS (ix l k) big ≠ 0 ∧ 0 < f ∧ kindS (ix l (f - 1)) big = 0) by have := HC2.out; rw [hC2] at this; simpa using this.symm)
   subst hC2
   have hf0 := HND.out.2.1
   have i5 : (f : Int) - 1 = ((f - 1 : Nat) : Int) := by omega
   go_wp2_with fail
   try rw [i5]
   refine (object_run (some ⟨b1, o1, none⟩) n c l big (f - 1) _ ha3 HN.out h2 (by omega)).mono ?_
   rintro e w5 ⟨f1, t1, rfl, hR5, hb5⟩
   have HR5 := Lib.hid hR5
   clear hR5
   have hS5 := hS.below hb5 hS.lt
   have hA5 := hA3.below hb5 hA3.lt
   have hb6 := below_then hb3 hb3.size hb5
   obtain ⟨c0, c1, e0, e1⟩ := hS5.two
   obtain ⟨d0, d1, f0, f1'⟩ := hA5.two
   have hA6 := hA5.other (a := ⟨B3, 0, none⟩) hne (.int .i64 (f1 : Int))
   have hb7 := hb6.setCell (p := ⟨B3, 0, none⟩) hle (.int .i64 (f1 : Int))
   go_wp2
   obtain ⟨z0, z1, -, -⟩ := Blk.two ((hA6.set 0 (.int .i64 (f1 : Int))).set 1 (.int .i64 (t : Int)))
   refine bodyPost_ret (v := .tuple #[.agg #[.int .i64 (f1 : Int), .int .i64 (t : Int)], .int .i64 0]) (by simp [results, Try.results231, go_sem, z0, z1]) rfl ?_
   exact ⟨f1, t, rfl, ⟨f, t, HR.out, by rw [if_neg (by rw [HN.out]; intro h; exact HNC.out h.2), if_pos ⟨rfl, HND.out⟩]; exact ⟨rfl, _, HR5.out⟩⟩, htl, (hb7.setCell (p := ⟨w.heap.size, 0, none⟩) (Nat.le_refl _) _).setCell (p := ⟨w.heap.size, 1, none⟩) (Nat.le_refl _) _⟩
 ·have HYC := Lib.hid (show (t < n ∧ (kindS (ix l k) big = 0 ∨ kindS (ix l t) big = 0)) by have := HC1.out; rw [hC1] at this; simpa using this.symm)
  subst hC1
  clear hl1
  have htn := HYC.out.1
  go_wp2_with fail
  refine (object_run (some ⟨b1, o1, none⟩) n c l big t _ ha3 HN.out h2 htn).mono ?_
  rintro e w5 ⟨f1, t1, rfl, hR5, hb5⟩
  have htl5 := hR5.len
  have HR5 := Lib.hid hR5
  clear hR5
  have hS5 := hS.below hb5 hS.lt
  have hA5 := hA3.below hb5 hA3.lt
  have hb6 := below_then hb3 hb3.size hb5
  obtain ⟨c0, c1, e0, e1⟩ := hS5.two
  obtain ⟨d0, d1, f0, f1'⟩ := hA5.two
  have hA6 := hA5.other (a := ⟨B3, 1, none⟩) hne (.int .i64 (t1 : Int))
  have hb7 := hb6.setCell (p := ⟨B3, 1, none⟩) hle (.int .i64 (t1 : Int))
  go_wp2
  obtain ⟨z0, z1, -, -⟩ := Blk.two ((hA6.set 0 (.int .i64 (f : Int))).set 1 (.int .i64 (t1 : Int)))
  refine bodyPost_ret (v := .tuple #[.agg #[.int .i64 (f : Int), .int .i64 (t1 : Int)], .int .i64 0]) (by simp [results, Try.results231, go_sem, z0, z1]) rfl ?_
  exact ⟨f, t1, rfl, ⟨f, t, HR.out, by rw [if_pos (by rw [HN.out]; exact ⟨rfl, HYC.out⟩)]; exact ⟨rfl, _, HR5.out⟩⟩, htl5, (hb7.setCell (p := ⟨w.heap.size, 0, none⟩) (Nat.le_refl _) _).setCell (p := ⟨w.heap.size, 1, none⟩) (Nat.le_refl _) _⟩
def quoteS (l : List Int) (q : Int) : Nat → Int
 | 0 => -1
 | i + 1 => if ix l i ≠ q then quoteS l q i else if quoteS l q i < 0 then (i : Int) else -1
theorem quoteS_range (l : List Int) (q : Int) (i : Nat) : -1 ≤ quoteS l q i ∧ quoteS l q i < i := by
 induction i with
 | zero => simp [quoteS]
 | succ i ih =>
  simp only [quoteS]
  repeat' split
  all_goals omega
def QFound (l : List Int) (k : Nat) (q : Int) (i : Nat) : Prop := ix l i = q ∧ 0 ≤ quoteS l q i ∧ k ≤ i
def QuotesPost (l : List Int) (k : Nat) (around : Bool) (q : Int) (w : World) (e : Ending) (w' : World) : Prop :=
 ((∃ i, i < l.length ∧ QFound l k q i ∧ (∀ j, j < i → ¬ QFound l k q j) ∧
   e = .returned (.tuple #[.agg #[.int .i64 (if around = true then quoteS l q i else quoteS l q i + 1), .int .i64 (if around = true then (i : Int) + 1 else (i : Int))], .int .i64 0])) ∨
  ((∀ i, i < l.length → ¬ QFound l k q i) ∧ e = .returned (.tuple #[.agg #[.int .i64 0, .int .i64 0], .int .i64 6]))) ∧ Below w.heap.size w w'
set_option maxRecDepth 100000 in
set_option maxHeartbeats 1000000 in
theorem object_quotes (a : Option Addr) (n c : Nat) (l : List Int) (k : Nat) (around : Bool) (q : Int) (w : World) (ha : Ints w a l) (hn : l.length = n) (h2 : n ≤ 4096) (hk : k ≤ 4096) :
  Calls Try.prog 233 #[.slice a n c, .int .i64 (k : Int), .bool around, .int .i64 q] w (QuotesPost l k around q w) := by
 have HN := Lib.hid hn; clear hn
 have hA := Blk.new w #[.int .i64 0, .int .i64 0] 302
 have hb := below1 w (.cells #[.int .i64 0, .int .i64 0] 302)
 go_enter Try.func233, Try.ntmps233
 go_wp2
 generalize w.alloc (.cells #[.int .i64 0, .int .i64 0] 302) = w1 at *
 have ha1 := ha.below hb
 obtain ⟨d0, d1, f0, f1⟩ := hA.two
 go_loopw [15, 10] (fun v u wr => ∃ i : Nat, v = .int .i64 (i : Int) ∧ u = .int .i64 (quoteS l q i) ∧ i ≤ n ∧ (∀ j, j < i → ¬ QFound l k q j) ∧ w1 = wr) (fun v _ _ => n - (intOf v).toNat)
 case atStart => exact ⟨0, rfl, rfl, by omega, fun j hj => by omega, rfl⟩
 case round =>
  obtain ⟨i, rfl, rfl, hi, hno, rfl⟩ := hrel
  have HNO := Lib.hid hno
  clear hno
  obtain ⟨hp0, hp1⟩ := quoteS_range l q i
  have HQ := Lib.hid (show quoteS l q (i + 1) = if ix l i ≠ q then quoteS l q i else if quoteS l q i < 0 then (i : Int) else -1 from rfl)
  obtain ⟨p, hp⟩ : ∃ p, quoteS l q i = p := ⟨_, rfl⟩
  have HP := Lib.hid hp
  rw [hp] at hp0 hp1 ⊢
  clear hp
  by_cases hlt : i < n
  ·obtain ⟨b1, o1, rfl, hc0⟩ := ha1.at (k := i) (by rw [HN.out]; exact hlt)
   have ck := hc0 i (by rw [HN.out]; exact hlt)
   have ii : (i : Int) < (n : Int) := by omega
   clear hc0
   by_cases hq : ix l i = q
   ·have g1 : (ix l i != q) = false := by simpa using hq
    by_cases hpn : p < 0
    ·have HQ2 := Lib.hid (show quoteS l q (i + 1) = (i : Int) by rw [HQ.out, if_neg (by simpa using hq), if_pos (by rw [HP.out]; exact hpn)])
     have HNF := Lib.hid (show ¬ QFound l k q i from fun h => by have := h.2.1; rw [HP.out] at this; omega)
     clear hq
     go_wp2
     go_roundw
     case rel =>
      refine ⟨i + 1, by go_num, by rw [HQ2.out], by omega, ?_, by first | rfl | trivial⟩
      intro j hj
      rcases Nat.lt_succ_iff_lt_or_eq.1 hj with h | rfl
      ·exact HNO.out j h
      ·exact HNF.out
     case measure => simp [intOf]; omega
    ·by_cases hik : i < k
     ·have HQ2 := Lib.hid (show quoteS l q (i + 1) = -1 by rw [HQ.out, if_neg (by simpa using hq), if_neg (by rw [HP.out]; exact hpn)])
      have HNF := Lib.hid (show ¬ QFound l k q i from fun h => by have := h.2.2; omega)
      have i2 : (i : Int) < (k : Int) := by omega
      clear hq
      go_wp2
      go_roundw
      case rel =>
       refine ⟨i + 1, by go_num, by rw [HQ2.out], by omega, ?_, by first | rfl | trivial⟩
       intro j hj
       rcases Nat.lt_succ_iff_lt_or_eq.1 hj with h | rfl
       ·exact HNO.out j h
       ·exact HNF.out
      case measure => simp [intOf]; omega
     ·have HF := Lib.hid (show QFound l k q i from ⟨hq, by rw [HP.out]; omega, by omega⟩)
      have i2 : ¬ (i : Int) < (k : Int) := by omega
      clear hq
      rcases around with _ | _
      ·go_wp2
       obtain ⟨z0, z1, -, -⟩ := Blk.two ((hA.set 0 (.int .i64 (p + 1))).set 1 (.int .i64 (i : Int)))
       refine bodyPost_ret (v := .tuple #[.agg #[.int .i64 (p + 1), .int .i64 (i : Int)], .int .i64 0]) (by simp [results, Try.results233, go_sem, z0, z1]) rfl ?_
       exact ⟨.inl ⟨i, by rw [HN.out]; exact hlt, HF.out, HNO.out, by rw [HP.out]; rfl⟩, (hb.setCell (p := ⟨w.heap.size, 0, none⟩) (Nat.le_refl _) _).setCell (p := ⟨w.heap.size, 1, none⟩) (Nat.le_refl _) _⟩
      ·go_wp2
       obtain ⟨z0, z1, -, -⟩ := Blk.two ((hA.set 0 (.int .i64 p)).set 1 (.int .i64 ((i : Int) + 1)))
       refine bodyPost_ret (v := .tuple #[.agg #[.int .i64 p, .int .i64 ((i : Int) + 1)], .int .i64 0]) (by simp [results, Try.results233, go_sem, z0, z1]) rfl ?_
       exact ⟨.inl ⟨i, by rw [HN.out]; exact hlt, HF.out, HNO.out, by rw [HP.out]; rfl⟩, (hb.setCell (p := ⟨w.heap.size, 0, none⟩) (Nat.le_refl _) _).setCell (p := ⟨w.heap.size, 1, none⟩) (Nat.le_refl _) _⟩
   ·have g1 : (ix l i != q) = true := by simpa using hq
    have HQ2 := Lib.hid (show quoteS l q (i + 1) = p by rw [HQ.out, if_pos hq, HP.out])
    have HNF := Lib.hid (show ¬ QFound l k q i from fun h => hq h.1)
    clear hq
    go_wp2
    go_roundw
    case rel =>
     refine ⟨i + 1, by go_num, by rw [HQ2.out], by omega, ?_, by first | rfl | trivial⟩
     intro j hj
     rcases Nat.lt_succ_iff_lt_or_eq.1 hj with h | rfl
     ·exact HNO.out j h
     ·exact HNF.out
    case measure => simp [intOf]; omega
  ·go_wp2
   obtain ⟨z0, z1, -, -⟩ := Blk.two ((hA.set 0 (.int .i64 0)).set 1 (.int .i64 0))
   refine bodyPost_ret (v := .tuple #[.agg #[.int .i64 0, .int .i64 0], .int .i64 6]) (by simp [results, Try.results233, go_sem, z0, z1]) rfl ?_
   exact ⟨.inr ⟨fun j hj => HNO.out j (by rw [HN.out] at hj; omega), rfl⟩, (hb.setCell (p := ⟨w.heap.size, 0, none⟩) (Nat.le_refl _) _).setCell (p := ⟨w.heap.size, 1, none⟩) (Nat.le_refl _) _⟩
theorem partner_range {l : List Int} {n k : Nat} {r : Int} (h : PartnerP l n k r) (hk : k < n) : -1 ≤ r ∧ r < n := by
 unfold PartnerP at h
 split at h
 ·omega
 ·split at h
  ·rcases h with ⟨t, h1, _, _, rfl⟩ | ⟨_, rfl⟩
   ·show -1 ≤ ((k - t : Nat) : Int) ∧ ((k - t : Nat) : Int) < n; omega
   ·omega
  ·rcases h with ⟨t, h1, _, _, rfl⟩ | ⟨_, rfl⟩
   ·show -1 ≤ ((k + t : Nat) : Int) ∧ ((k + t : Nat) : Int) < n; omega
   ·omega
def BFound (l ps : List Int) (k : Nat) (o : Int) (i : Nat) : Prop := ix l i = o ∧ (k : Int) ≤ ix ps i
def BracketsPost (l ps : List Int) (k : Nat) (around : Bool) (o : Int) (w : World) (e : Ending) (w' : World) : Prop :=
 ((∃ i, i < l.length ∧ i ≤ k ∧ BFound l ps k o i ∧ (∀ j, i < j → j ≤ k → j < l.length → ¬ BFound l ps k o j) ∧
   e = .returned (.tuple #[.agg #[.int .i64 (if around = true then (i : Int) else (i : Int) + 1), .int .i64 (if around = true then ix ps i + 1 else ix ps i)], .int .i64 0])) ∨
  ((∀ i, i < l.length → i ≤ k → ¬ BFound l ps k o i) ∧ e = .returned (.tuple #[.agg #[.int .i64 0, .int .i64 0], .int .i64 6]))) ∧ Below w.heap.size w w'
set_option maxRecDepth 100000 in
set_option maxHeartbeats 1000000 in
theorem object_brackets (a : Option Addr) (n c : Nat) (l ps : List Int) (hps : (pRun l n n).out = ps) (k : Nat) (around : Bool) (o : Int) (w : World) (ha : Ints w a l) (hn : l.length = n) (h2 : n ≤ 4096) (hk : k ≤ 4096) :
  Calls Try.prog 232 #[.slice a n c, .int .i64 (k : Int), .bool around, .int .i64 o] w (BracketsPost l ps k around o w) := by
 have HN := Lib.hid hn; clear hn
 have HPS := Lib.hid hps; clear hps
 have HPR := Lib.hid (fun i (hi : i < n) => (by rw [← HPS.out]; exact partner_range (pairs_partner l n i hi) hi : -1 ≤ ix ps i ∧ ix ps i < n))
 have HPL := Lib.hid (show ps.length = n by rw [← HPS.out]; exact pRun_len l n n)
 have hA := Blk.new w #[.int .i64 0, .int .i64 0] 302
 have hb := below1 w (.cells #[.int .i64 0, .int .i64 0] 302)
 go_enter Try.func232, Try.ntmps232
 go_wp2_with fail
 refine (dyck_pairs a n c l _ (ha.below hb) HN.out h2).mono ?_
 rintro e w2 ⟨g, rfl, hI, hb2⟩
 have hA2 := hA.below hb2 hA.lt
 have hbb := below_then hb hb.size hb2
 have ha2 := ha.below hbb
 clear hA hb hb2
 rw [HPS.out] at hI
 obtain ⟨d0, d1, f0, f1⟩ := hA2.two
 have hcell : ∀ i, i < n → w2.cell? ⟨g, i, none⟩ = some (.int .i64 (ix ps i)) := fun i hi => by
  obtain ⟨b4, o4, hb4, hc4⟩ := hI.at (k := i) (by rw [HPL.out]; exact hi)
  simp only [Option.some.injEq, Addr.mk.injEq] at hb4
  obtain ⟨rfl, rfl, -⟩ := hb4
  have := hc4 i (by rw [HPL.out]; exact hi)
  rwa [Nat.zero_add] at this
 have HCL := Lib.hid hcell
 clear hcell hI
 go_wp2
 all_goals
  go_loopw [12] (fun v wr => ∃ j : Nat, v = .int .i64 ((j : Int) - 1) ∧ j ≤ n ∧ j ≤ k + 1 ∧ (∀ i, j ≤ i → i ≤ k → i < n → ¬ BFound l ps k o i) ∧ w2 = wr) (fun v _ => (intOf v + 1).toNat)
  case atStart =>
   first
   | exact ⟨k + 1, by go_num, by omega, by omega, fun i h1 h2 h3 => by omega, rfl⟩
   | exact ⟨n, by go_num, by omega, by omega, fun i h1 h2 h3 => by omega, rfl⟩
  case round =>
   obtain ⟨j, rfl, hj, hjk, hno, rfl⟩ := hrel
   have HNO := Lib.hid hno
   clear hno
   by_cases hj0 : j = 0
   ·subst hj0
    go_wp2
    obtain ⟨z0, z1, -, -⟩ := Blk.two ((hA2.set 0 (.int .i64 0)).set 1 (.int .i64 0))
    refine bodyPost_ret (v := .tuple #[.agg #[.int .i64 0, .int .i64 0], .int .i64 6]) (by simp [results, Try.results232, go_sem, z0, z1]) rfl ?_
    exact ⟨.inr ⟨fun i h1 h2 => HNO.out i (by omega) h2 (by rw [HN.out] at h1; exact h1), rfl⟩, (hbb.setCell (p := ⟨w.heap.size, 0, none⟩) (Nat.le_refl _) _).setCell (p := ⟨w.heap.size, 1, none⟩) (Nat.le_refl _) _⟩
   ·obtain ⟨i, rfl⟩ : ∃ i, j = i + 1 := ⟨j - 1, by omega⟩
    have hin : i < n := by omega
    obtain ⟨b1, o1, rfl, hc0⟩ := ha2.at (k := i) (by rw [HN.out]; exact hin)
    have ck := hc0 i (by rw [HN.out]; exact hin)
    have cp := HCL.out i hin
    obtain ⟨hr0, hr1⟩ := HPR.out i hin
    have ij : ((i + 1 : Nat) : Int) - 1 = (i : Int) := by omega
    have ii : (i : Int) < (n : Int) := by omega
    rw [ij]
    clear hc0
    by_cases hq : ix l i = o
    ·have g1 : (ix l i == o) = true := by simpa using hq
     by_cases hp : (k : Int) ≤ ix ps i
     ·have HF := Lib.hid (show BFound l ps k o i from ⟨hq, hp⟩)
      clear hq
      first
      | (exfalso; omega)
      | (
       rcases around with _ | _
       ·go_wp2
        obtain ⟨z0, z1, -, -⟩ := Blk.two ((hA2.set 0 (.int .i64 ((i : Int) + 1))).set 1 (.int .i64 (ix ps i)))
        refine bodyPost_ret (v := .tuple #[.agg #[.int .i64 ((i : Int) + 1), .int .i64 (ix ps i)], .int .i64 0]) (by simp [results, Try.results232, go_sem, z0, z1]) rfl ?_
        exact ⟨.inl ⟨i, by rw [HN.out]; exact hin, by omega, HF.out, fun j h1 h2 h3 => HNO.out j (by omega) h2 (by rw [HN.out] at h3; exact h3), rfl⟩, (hbb.setCell (p := ⟨w.heap.size, 0, none⟩) (Nat.le_refl _) _).setCell (p := ⟨w.heap.size, 1, none⟩) (Nat.le_refl _) _⟩
       ·go_wp2
        obtain ⟨z0, z1, -, -⟩ := Blk.two ((hA2.set 0 (.int .i64 (i : Int))).set 1 (.int .i64 (ix ps i + 1)))
        refine bodyPost_ret (v := .tuple #[.agg #[.int .i64 (i : Int), .int .i64 (ix ps i + 1)], .int .i64 0]) (by simp [results, Try.results232, go_sem, z0, z1]) rfl ?_
        exact ⟨.inl ⟨i, by rw [HN.out]; exact hin, by omega, HF.out, fun j h1 h2 h3 => HNO.out j (by omega) h2 (by rw [HN.out] at h3; exact h3), rfl⟩, (hbb.setCell (p := ⟨w.heap.size, 0, none⟩) (Nat.le_refl _) _).setCell (p := ⟨w.heap.size, 1, none⟩) (Nat.le_refl _) _⟩)
     ·have HNF := Lib.hid (show ¬ BFound l ps k o i from fun h => hp h.2)
      clear hq
      go_wp2
      go_roundw
      case rel =>
       refine ⟨i, by go_num, by omega, by omega, ?_, by first | rfl | trivial⟩
       intro j h1 h2 h3
       by_cases e : j = i
       ·rw [e]; exact HNF.out
       ·exact HNO.out j (by omega) h2 h3
      case measure => simp [intOf]
    ·have g1 : (ix l i == o) = false := by simpa using hq
     have HNF := Lib.hid (show ¬ BFound l ps k o i from fun h => hq h.1)
     clear hq
     go_wp2
     go_roundw
     case rel =>
      refine ⟨i, by go_num, by omega, by omega, ?_, by first | rfl | trivial⟩
      intro j h1 h2 h3
      by_cases e : j = i
      ·rw [e]; exact HNF.out
      ·exact HNO.out j (by omega) h2 h3
     case measure => simp [intOf]
theorem ref_partner (a : Option Addr) (n c : Nat) (l : List Int) (k : Nat) (w : World) (ha : Ints w a l) (hn : l.length = n) (h2 : n ≤ 4096) (hk : k < n) :
  Calls Try.prog 194 #[.slice a n c, .int .i64 (k : Int)] w (PartPost (PartnerP l n k) w) := by
 by_cases h0 : openS (ix l k) = 0
 ·refine (ref_partner_none a n c l k w ha hn h2 hk h0).mono ?_
  rintro e w' ⟨r, h1, h3, h4⟩
  exact ⟨r, h1, by unfold PartnerP; rw [if_pos h0]; exact h3, h4⟩
 ·have hne : closeS (ix l k) ≠ openS (ix l k) := by
   rcases sevenWays (ix l k) with h | h | h | h | h | h | ⟨h1, h2, h3, h4, h5, h6⟩
   case inr.inr.inr.inr.inr.inr => exact absurd (by simp [openS, h1, h2, h3, h4, h5, h6]) h0
   all_goals rw [h]; decide
  by_cases h1 : ix l k = closeS (ix l k)
  ·refine (ref_partner_down a n c l k w ha hn h2 hk _ _ rfl rfl h0 h1 hne).mono ?_
   rintro e w' ⟨r, h5, h3, h4⟩
   exact ⟨r, h5, by unfold PartnerP; rw [if_neg h0, if_pos h1]; exact h3, h4⟩
  ·refine (ref_partner_up a n c l k w ha hn h2 hk _ _ rfl rfl h0 h1 hne.symm).mono ?_
   rintro e w' ⟨r, h5, h3, h4⟩
   exact ⟨r, h5, by unfold PartnerP; rw [if_neg h0, if_neg h1]; exact h3, h4⟩
end Go.Proofs.Ytmipnikhgihcpaa
