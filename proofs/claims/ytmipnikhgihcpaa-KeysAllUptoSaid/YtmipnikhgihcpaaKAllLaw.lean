/- The walk of KeysAll. -/
import Derived.Test.YtmipnikhgihcpaaKAll4
namespace Go.Proofs.Ytmipnikhgihcpaa
open Go.RowKit
set_option linter.unusedVariables false
set_option linter.unusedSimpArgs false

set_option maxRecDepth 100000 in
set_option maxHeartbeats 4000000 in
theorem keysAll_walk (la : Option Addr) (lm lc : Nat) (xs : List Int) (a b c d g : Int) (w : World) (hx : Ints w la xs) (hn : xs.length = lm) (hl : lm ≤ 1048576) :
    Calls Try.prog 8 #[.slice la lm lc, .agg #[.int .i64 a, .int .i64 b, .int .i64 c, .int .i64 d, .int .i64 g]] w fun e w' => e = .returned (.bool true) ∧ Below w.heap.size w w' := by
  have HN := Lib.hid hn; clear hn
  have hA := Blk.new w #[.int .i64 a, .int .i64 b, .int .i64 c, .int .i64 d, .int .i64 g] 80
  have hacc := below1 w (.cells #[.int .i64 a, .int .i64 b, .int .i64 c, .int .i64 d, .int .i64 g] 80)
  have hx := hx.below hacc
  have hgd := (stV_good xs).len
  go_enter Try.func8, Try.ntmps8
  go_upto_region 1 with fail
  generalize w.alloc (.cells #[.int .i64 a, .int .i64 b, .int .i64 c, .int .i64 d, .int .i64 g] 80) = w1 at *
  go_wp2_with fail
  refine (keys_all la lm lc xs _ hx HN.out hl).mono ?_
  rintro e w2 ⟨v2, rfl, ho2, hb2⟩
  have HST := Lib.hid (ref_takeAll la lm lc xs)
  generalize stV xs = st at *
  obtain ⟨out, ⟨p0, p1, p2, p3, p4⟩, nn⟩ := st
  simp only at ho2 hgd
  have hbP := below1 w2 (.cells #[.int .i64 p0, .int .i64 p1, .int .i64 p2, .int .i64 p3, .int .i64 p4] 83)
  have hP := Blk.new w2 #[.int .i64 p0, .int .i64 p1, .int .i64 p2, .int .i64 p3, .int .i64 p4] 83
  have ho2 := ho2.kept hbP
  have hx := (hx.below hb2).below hbP
  have hA := (hA.below hb2 hA.lt).below hbP (hA.below hb2 hA.lt).lt
  have hacc := below_then (below_then hacc hacc.size hb2) (below_then hacc hacc.size hb2).size hbP
  go_upto_region 2 with fail
  clear hb2 hbP
  generalize w2.alloc (.cells #[.int .i64 p0, .int .i64 p1, .int .i64 p2, .int .i64 p3, .int .i64 p4] 83) = w3 at *
  generalize w2.heap.size = N6 at *
  go_wp2_with fail
  refine (HST.out _ hx HN.out hl).mono ?_
  rintro e w4 ⟨v4, rfl, ho4, hb4⟩
  have hbQ := below1 w4 (.cells #[.int .i64 p0, .int .i64 p1, .int .i64 p2, .int .i64 p3, .int .i64 p4] 83)
  have hQ := Blk.new w4 #[.int .i64 p0, .int .i64 p1, .int .i64 p2, .int .i64 p3, .int .i64 p4] 83
  have ho4 := ho4.kept hbQ
  have ho2 := (ho2.kept hb4).kept hbQ
  have hA := (hA.below hb4 hA.lt).below hbQ (hA.below hb4 hA.lt).lt
  have hP := (hP.below hb4 hP.lt).below hbQ (hP.below hb4 hP.lt).lt
  have hacc := below_then (below_then hacc hacc.size hb4) (below_then hacc hacc.size hb4).size hbQ
  go_upto_region 3 with fail
  clear hb4 hbQ hx HST
  generalize w4.alloc (.cells #[.int .i64 p0, .int .i64 p1, .int .i64 p2, .int .i64 p3, .int .i64 p4] 83) = w5 at *
  generalize w4.heap.size = N9 at *
  obtain ⟨c0, c1, c2, c3, c4⟩ := hA.five
  go_wp2_with fail
  refine (keys_write a b c d g _).mono ?_
  rintro e w6 ⟨v6, rfl, ho6, hb6⟩
  have ho4 := ho4.kept hb6
  have ho2 := ho2.kept hb6
  have hA := hA.below hb6 hA.lt
  have hP := hP.below hb6 hP.lt
  have hQ := hQ.below hb6 hQ.lt
  have hacc := below_then hacc hacc.size hb6
  clear c0 c1 c2 c3 c4 hb6
  obtain ⟨c0, c1, c2, c3, c4⟩ := hA.five
  go_wp2_with fail
  refine (ref_writeCmd a b c d g _).mono ?_
  rintro e w7 ⟨v7, rfl, ho7, hb7⟩
  have ho6 := ho6.kept hb7
  have ho4 := ho4.kept hb7
  have ho2 := ho2.kept hb7
  have hP := hP.below hb7 hP.lt
  have hQ := hQ.below hb7 hQ.lt
  have hacc := below_then hacc hacc.size hb7
  clear c0 c1 c2 c3 c4 hb7 hA
  generalize wrL ⟨a, b, c, d, g⟩ = L at *
  generalize wrE ⟨a, b, c, d, g⟩ = E at *
  obtain ⟨a2, k2, rfl, -⟩ := ho2.form
  obtain ⟨a4, k4, rfl, -⟩ := ho4.form
  obtain ⟨a6, n6, k6, rfl⟩ := ho6.form
  obtain ⟨a7, n7, k7, rfl⟩ := ho7.form
  have h6 := ho6.get; have h7 := ho7.get
  have hn6 : n6 ≤ 9223372036854775807 := by
    rcases ho6.2 with ⟨h1, h2⟩ | ⟨g2, cap2, cur2, h1, _, _, _, hm, _⟩
    · simp only [Value.slice.injEq] at h1; omega
    · simp only [Value.slice.injEq] at h1; unfold maxLen at hm; omega
  have HG := Lib.hid (show _ ∧ _ ∧ _ ∧ _ from ⟨ho2.cmds.1, ho4.cmds.1, h6, h7⟩)
  have hgd2 : out.length ≤ 1048576 := by have := HN.out; omega
  obtain ⟨x0, x1, x2, x3, x4⟩ := hP.five
  obtain ⟨y0, y1, y2, y3, y4⟩ := hQ.five
  clear ho2 ho4 ho6 ho7 h6 h7 hP hQ
  go_wp2_with fail
  refine (cmds_same a2 a4 out.length k2 k4 out w7 HG.out.1 HG.out.2.1 rfl hgd2).mono ?_
  rintro e w8 ⟨rfl, q, rfl⟩
  go_wp2_with fail
  refine (slices_same a6 a7 n6 n7 k6 k7 L _ (HG.out.2.2.1.2.1.drewN _) (HG.out.2.2.2.2.1.drewN _) HG.out.2.2.1.1 HG.out.2.2.2.1 hn6).mono ?_
  rintro e w9 ⟨rfl, q2, rfl⟩
  go_wp2
  go_ret
  exact ⟨rfl, below_drewN hacc (q + q2)⟩

end Go.Proofs.Ytmipnikhgihcpaa
