/- Contract of splice.Apply. -/
import Derived.Test.YtbgbcmfgncneiaaSpl1
import Derived.Test.YtbgbcmfgncneiaaCut
namespace Go.Proofs.Ytbgbcmfgncneiaa
open Go.RowKit
set_option linter.unusedVariables false
set_option linter.unusedSimpArgs false

def ApPost (l : List Int) (es : List Sp) (w : World) (e : Ending) (w' : World) : Prop := ∃ v, e = .returned (.tuple #[v, .int .i64 0]) ∧ Own 3 w.heap.size w' v (apP l 0 es) ∧ Below w.heap.size w w'

set_option maxRecDepth 100000 in
set_option maxHeartbeats 1000000 in
theorem splice_apply (la a : Option Addr) (n c m mc : Nat) (l : List Int) (es : List Sp) (w : World) (hl : Ints w la l) (hn : l.length = n) (hc : n ≤ c) (hc2 : c ≤ 9223372036854775807) (ha : la = none → n = 0)
    (he : Spls w a es) (hm : es.length = m) (hm2 : m ≤ 9223372036854775807) (hok : ckE n es = 0) :
    Calls Try.prog 40 #[.slice la n c, .slice a m mc] w (ApPost l es w) := by
  obtain ⟨g1, g2, hg, g3⟩ := ckE_good hok
  have HG := Lib.hid hg
  have HOK := Lib.hid hok
  have HN := Lib.hid hn
  have HM := Lib.hid hm
  clear hg hok hn hm
  go_enter Try.func40, Try.ntmps40
  go_wp2_with fail
  refine (splice_check a m mc es n w he HM.out hm2).mono ?_
  rintro e w1 ⟨rfl, hb⟩
  rw [HOK.out]
  go_wp2
  have htot : (apP l 0 es).length ≤ 4096 := by
    have := apP_len (l := l) (es := es) (last := -1) (at' := 0) (by rw [HN.out]; exact HG.out) (by omega) (by
      intro s hs
      cases es with
      | nil => simp at hs
      | cons s' r => simp at hs; subst hs; have := HG.out.1; omega) (.inr rfl)
    rw [HN.out] at this
    omega
  go_loopw [7, 8, 20] (fun v u i wr => ∃ (k at' : Nat) (L : Int) (acc : List Int), u = .int .i64 (at' : Int) ∧ i = .int .i64 (k : Int) ∧ k ≤ m ∧ at' ≤ n ∧ Hid (acc ++ apP l at' (es.drop k) = apP l 0 es) ∧ Hid (Good (n : Int) L (es.drop k)) ∧ (at' : Int) ≤ L + 1 ∧ acc.length ≤ 4096 ∧
      Own 3 w.heap.size wr v acc ∧ Below w.heap.size w wr) (fun _ _ i _ => m - (intOf i).toNat)
  case atStart => exact ⟨0, 0, -1, [], rfl, rfl, by omega, by omega, Lib.hid rfl, HG, by omega, by simp, Own.nil _ _ _, hb⟩
  case round =>
    clear hb
    obtain ⟨k, at', L, acc, rfl, rfl, hk, hat, HA, HGL, hL, hacc, hown, hbr⟩ := hrel
    by_cases hlt : k < m
    · obtain ⟨b1, o1, rfl, hcc⟩ := he.at (k := k) (by rw [HM.out]; exact hlt)
      obtain ⟨ax, cx, c0, c1, c2, cI, y1, y2, y3⟩ := hcc k (by rw [HM.out]; exact hlt)
      replace c0 := below_keeps hbr _ _ c0
      replace c1 := below_keeps hbr _ _ c1
      replace c2 := below_keeps hbr _ _ c2
      have hd := drop_sp (es := es) (i := k) (by rw [HM.out]; exact hlt)
      generalize sp es k = s at *
      obtain ⟨f, t, x⟩ := s
      simp only at c0 c1 c2 cI y1 y2 y3
      have hg' := HGL.out
      have ha' := HA.out
      rw [hd] at hg' ha'
      obtain ⟨z1, z2, z3, -, z4, hg2⟩ := hg'
      simp only at z1 z2 z3 z4 hg2
      simp only [apP] at ha'
      clear hd HA HGL
      obtain ⟨F, rfl⟩ := Int.eq_ofNat_of_zero_le (show 0 ≤ f by omega)
      obtain ⟨T, rfl⟩ := Int.eq_ofNat_of_zero_le (show 0 ≤ t by omega)
      have ha2 : (acc ++ (l.take F).drop at' ++ x) ++ apP l T (es.drop (k + 1)) = apP l 0 es := by simpa [List.append_assoc] using ha'
      have hlen : (acc ++ (l.take F).drop at' ++ x).length ≤ 4096 := by
        have := congrArg List.length ha2
        rw [List.length_append] at this
        omega
      have HA2 := Lib.hid ha2
      have HG2 := Lib.hid hg2
      clear ha' ha2 hg2
      have i1 : (k : Int) < (m : Int) := by omega
      have hlr := hl.below hbr
      have hcr := cut_run la n c at' F (by omega) (by omega)
      go_upto_region 9 with fail
      have hB := Blk.new wr #[.int .i64 (F : Int), .int .i64 (T : Int), .slice ax x.length cx] 127
      have hb1 := hbr.alloc hbr.size (.cells #[.int .i64 (F : Int), .int .i64 (T : Int), .slice ax x.length cx] 127)
      have hl1 := hlr.below (below1 wr (.cells #[.int .i64 (F : Int), .int .i64 (T : Int), .slice ax x.length cx] 127))
      have hown1 := hown.alloc (.cells #[.int .i64 (F : Int), .int .i64 (T : Int), .slice ax x.length cx] 127)
      generalize wr.alloc (.cells #[.int .i64 (F : Int), .int .i64 (T : Int), .slice ax x.length cx] 127) = w2 at *
      obtain ⟨e0, e1, e2, -⟩ := hB.three
      have hcut := hl1.cutTo (c := c) at' F (by rw [HN.out]; omega) (by omega) (by rw [HN.out]; omega)
      have hcl : ((l.take F).drop at').length = F - at' := by rw [List.length_drop, List.length_take, HN.out]; omega
      have HCL := Lib.hid hcl
      have HC0 := Lib.hid (show cutA la c at' = none → F - at' = 0 from fun h => by have := ha (cutA_none h); omega)
      clear hcl ha
      have hsz := hb1.size
      have hrow := hown1.row
      go_wp2_with (first | (at_builtin; refine appV rfl _ _ rfl w.heap.size v4 _ x ax x.length cx rfl rfl hown4 hx4 rfl y3 (by simp at hlen ⊢; omega) hb4.size ?_; intro v5 w5 hown5 hgrow5; have hB5 := hB4.grown hgrow5 (hown4.neBlk hB4 (by decide)); obtain ⟨p0, p1, p2, -⟩ := hB5.three) | (at_builtin; refine appV rfl _ _ rfl w.heap.size u7 _ ((l.take F).drop at') (cutA la c at') (F - at') (c - at') rfl rfl hown1 hcut HCL.out HC0.out (by omega) hsz ?_; intro v4 w4 hown4 hgrow4; have hB4 := hB.grown hgrow4 (hown1.neBlk hB (by decide)); obtain ⟨q0, q1, q2, -⟩ := hB4.three; have hb4 := hb1.grown hgrow4 hsz hrow; have hx4 := cI.below hb4))
      go_roundw
      case rel => exact ⟨k + 1, T, _, _, rfl, by go_num, by omega, by omega, HA2, HG2, by omega, hlen, hown5, hb4.grown hgrow5 hb4.size hown4.row⟩
      case measure => simp [intOf]; omega
    · obtain rfl : m = k := by omega
      have hd : es.drop m = [] := by rw [List.drop_eq_nil_iff, HM.out]; omega
      have ha' := HA.out
      rw [hd] at ha'
      simp only [apP] at ha'
      have HA2 := Lib.hid ha'
      clear ha' hd HA HGL
      have hlr := hl.below hbr
      have hcr := cut_run_end la n c at' (by omega)
      have hcut := hlr.cutEnd (c := c) at' (by rw [HN.out]; omega) (by rw [HN.out]; omega)
      have HCL := Lib.hid (show (l.drop at').length = n - at' by rw [List.length_drop, HN.out])
      have HC0 := Lib.hid (show cutA la c at' = none → n - at' = 0 from fun h => by have := ha (cutA_none h); omega)
      have hsz := hbr.size
      clear ha
      go_wp2_with (at_builtin; refine appV rfl _ _ rfl w.heap.size u7 _ (l.drop at') (cutA la c at') (n - at') (c - at') rfl rfl hown hcut HCL.out HC0.out (by omega) hsz ?_; intro v4 w4 hown4 hgrow4)
      go_ret2
      rw [HA2.out] at hown4
      exact ⟨_, rfl, hown4, hbr.grown hgrow4 hsz hown.row⟩

end Go.Proofs.Ytbgbcmfgncneiaa
