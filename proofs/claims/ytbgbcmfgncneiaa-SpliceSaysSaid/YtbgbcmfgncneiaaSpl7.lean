/- Contract of fairref.Undone. -/
import Derived.Test.YtbgbcmfgncneiaaSpl5
namespace Go.Proofs.Ytbgbcmfgncneiaa
open Go.RowKit
set_option linter.unusedVariables false
set_option linter.unusedSimpArgs false

def UndPost (l : List Int) (es : List Sp) (w : World) (e : Ending) (w' : World) : Prop := ∃ v us, e = .returned v ∧ SOwn w.heap.size w' v us (unP l 0 es) ∧ Below w.heap.size w w'

theorem info_spl2 : (Try.prog.info? 127).map (fun i => (i.zero, i.size, i.bytes)) = some (some (.agg #[.int .i64 0, .int .i64 0, .slice none 0 0]), 3, 40) := by kernel_rfl
theorem scut_run_to (a : Option Addr) (n c hi : Nat) (h2 : hi ≤ c) (w : World) :
    (Instr.slice 22 (.slice a n c) none (some (.int .i64 (hi : Int))) none).run Try.prog w = .ok (.slice a hi c) w := by
  obtain ⟨i0, hi0, hz0, hz1, hz2⟩ := info_parts info_spl2
  have b2 : (0 : Int) ≤ (hi : Int) ∧ (hi : Int) ≤ (c : Int) := by omega
  simp [Instr.slice, Instr.sliceBounds, Instr.sliceBound, asIntOf, run_underlying Try.underlying22, sizeOf, typeInfo, hi0, hz1, b2, go_sem, h2]
theorem Spls.take {w : World} {a : Option Addr} {es : List Sp} (h : Spls w a es) (k : Nat) : Spls w a (es.take k) := by
  rcases h with rfl | ⟨b, o, ha, h⟩
  · exact .inl (by simp)
  · refine .inr ⟨b, o, ha, fun i hi => ?_⟩
    have hi' : i < es.length := by simp at hi; omega
    have := h i hi'
    rw [sp_eq hi'] at this
    rw [sp_eq hi]
    simpa using this

/-- of a right edit within bounds, the beginning too is within bounds -/
theorem grow_take {n : Int} {es : List Sp} {k : Nat} (h : Good n (-1) es) (hk : k < es.length) (h0 : 0 ≤ n) (hgr : n + grow es ≤ 4096) :
    Good (sp es k).f (-1) (es.take k) ∧ (sp es k).f + grow (es.take k) ≤ 4096 := by
  have h1 := h.take k hk
  rw [← sp_eq hk] at h1
  refine ⟨h1, ?_⟩
  obtain ⟨L, h2, hL, -, -⟩ := h.dropL k
  have h3 : grow es = grow (es.take k) + grow (es.drop k) := by rw [← grow_append, List.take_append_drop]
  rw [drop_sp hk] at h2 h3
  obtain ⟨a, b, c, d, e, g⟩ := h2
  have := grow_lo h0 g c (by omega)
  simp only [grow] at h3
  omega

theorem keepB3 {W w1 w2 : World} {a b c : Addr} {u v x : Value} (h : w1.cell? a = some u ∧ w1.cell? b = some v ∧ w1.cell? c = some x ∧ Below W.heap.size W w1) (hb : Below w1.heap.size w1 w2) :
    w2.cell? a = some u ∧ w2.cell? b = some v ∧ w2.cell? c = some x ∧ Below W.heap.size W w2 := keepC3 h hb

set_option maxRecDepth 100000 in
set_option maxHeartbeats 4000000 in
theorem ref_undone (la a : Option Addr) (n c m mc : Nat) (l : List Int) (es : List Sp) (w : World) (hl : Ints w la l) (hn : l.length = n) (hc : n ≤ c) (hc2 : c ≤ 9223372036854775807) (ha : la = none → n = 0)
    (he : Spls w a es) (hm : es.length = m) (hmc : m ≤ mc) (hm2 : mc ≤ 9223372036854775807) (hn2 : n ≤ 4096) (hg : Good (n : Int) (-1) es) (hgr : (n : Int) + grow es ≤ 4096) :
    Calls Try.prog 46 #[.slice la n c, .slice a m mc] w (UndPost l es w) := by
  have hcnt := hg.count (by omega)
  rw [hm] at hcnt
  have HG := Lib.hid hg
  have HN := Lib.hid hn
  have HM := Lib.hid hm
  have HA0 := Lib.hid ha
  clear hg hn hm ha
  go_enter Try.func46, Try.ntmps46
  go_wp2
  go_loopw [5, 11] (fun v i wr => ∃ (k : Nat) (mv : Int) (us : List SV) (acc : List Sp), i = .int .i64 (k : Int) ∧ k ≤ m ∧ Hid (acc ++ unP l mv (es.drop k) = unP l 0 es) ∧ Hid (mv = grow (es.take k)) ∧ Hid (acc.length = k) ∧
      SOwn w.heap.size wr v us acc ∧ Below w.heap.size w wr) (fun _ i _ => m - (intOf i).toNat)
  case atStart => exact ⟨0, 0, [], [], rfl, by omega, Lib.hid rfl, Lib.hid rfl, Lib.hid rfl, SOwn.nil _ _, Below.refl _ _⟩
  case round =>
    obtain ⟨k, mv, us, acc, rfl, hk, HA, HMV, HAC, hown, hbr⟩ := hrel
    by_cases hlt : k < m
    · have hkm : k < es.length := by rw [HM.out]; omega
      obtain ⟨b1, o1, rfl, hcc⟩ := he.at (k := k) hkm
      obtain ⟨ax, cx, c0, c1, c2, cI, y1, y2, y3⟩ := hcc k hkm
      replace c0 := below_keeps hbr _ _ c0
      replace c1 := below_keeps hbr _ _ c1
      replace c2 := below_keeps hbr _ _ c2
      have hd := drop_sp (es := es) (i := k) hkm
      obtain ⟨hgt, hgt2⟩ := grow_take HG.out hkm (by omega) hgr
      obtain ⟨L, hgl, hL1, -, -⟩ := HG.out.dropL k
      have hgs : grow (es.take (k + 1)) = grow (es.take k) + grow [sp es k] := by rw [List.take_succ_eq_append_getElem hkm, grow_append, sp_eq hkm]
      rw [hd] at hgl
      generalize sp es k = s at *
      obtain ⟨f, t, x⟩ := s
      simp only at c0 c1 c2 cI y1 y2 y3 hgt hgt2
      have ha' := HA.out
      rw [hd] at ha'
      obtain ⟨z1, z2, z3, -, z4, hg2⟩ := hgl
      simp only at z1 z2 z3 z4 hg2
      simp only [unP] at ha'
      simp only [grow] at hgs
      obtain ⟨F, rfl⟩ := Int.eq_ofNat_of_zero_le (show 0 ≤ f by omega)
      obtain ⟨T, rfl⟩ := Int.eq_ofNat_of_zero_le (show 0 ≤ t by omega)
      have hlenF : (l.take F).length = F := by rw [List.length_take, HN.out]; omega
      have hap := apP_len (l := l.take F) (es := es.take k) (last := -1) (at' := 0) (by rw [hlenF]; exact hgt) (by omega) (by
        intro s hs
        cases hh : es.take k with
        | nil => rw [hh] at hs; simp at hs
        | cons s' r => rw [hh] at hs hgt; simp at hs; subst hs; have := hgt.1; omega) (.inr rfl)
      rw [hlenF, ← HMV.out] at hap
      rw [← HMV.out] at hgt2 hgs
      obtain ⟨D, hD⟩ : ∃ D : Nat, (apP (l.take F) 0 (es.take k)).length = D := ⟨_, rfl⟩
      rw [hD] at hap
      obtain rfl : mv = (D : Int) - (F : Int) := by omega
      obtain ⟨p, hp⟩ : ∃ p : Sp, p = ⟨(D : Int), (D : Int) + (x.length : Int), (l.take T).drop F⟩ := ⟨_, rfl⟩
      have ha2 : (acc ++ [p]) ++ unP l ((D : Int) - (F : Int) + ((x.length : Int) - ((T : Int) - (F : Int)))) (es.drop (k + 1)) = unP l 0 es := by
        rw [hp]
        have e1 : (F : Int) + ((D : Int) - (F : Int)) = D := by omega
        rw [e1] at ha'
        simpa [List.append_assoc] using ha'
      have HA2 := Lib.hid ha2
      have HGS := Lib.hid (show (D : Int) - (F : Int) + ((x.length : Int) - ((T : Int) - (F : Int))) = grow (es.take (k + 1)) by omega)
      have HP := Lib.hid hp
      have HD := Lib.hid hD
      have HGT := Lib.hid hgt
      have hgt3 : (F : Int) + grow (es.take k) ≤ 4096 := by have := HMV.out; omega
      have HG3 := Lib.hid hgt3
      have LF := Lib.hid hlenF
      have LK := Lib.hid (show (es.take k).length = k by rw [List.length_take, HM.out]; omega)
      have hDb : D ≤ 4096 := by omega
      clear ha' ha2 hg2 hp hgs hap hd hD hgt hgt2 hgt3 hlenF HA
      have i1 : (k : Int) < (m : Int) := by omega
      have hlr := hl.below hbr
      have her := he.below hbr
      have hcr := cut_run la n c F T (by omega) (by omega)
      have hcl := cut_run_to la n c F (by omega)
      have hce := scut_run_to (some ⟨b1, o1, none⟩) m mc k (by omega)
      have hne := hown.neOf (Nat.le_refl _)
      go_upto_region 5 with fail
      have hB := Blk.new wr #[.int .i64 (F : Int), .int .i64 (T : Int), .slice ax x.length cx] 127
      have hb1 := hbr.alloc hbr.size (.cells #[.int .i64 (F : Int), .int .i64 (T : Int), .slice ax x.length cx] 127)
      have hl1 := hlr.below (below1 wr (.cells #[.int .i64 (F : Int), .int .i64 (T : Int), .slice ax x.length cx] 127))
      have he1 := her.below (below1 wr (.cells #[.int .i64 (F : Int), .int .i64 (T : Int), .slice ax x.length cx] 127))
      have hown1 := hown.alloc (.cells #[.int .i64 (F : Int), .int .i64 (T : Int), .slice ax x.length cx] 127)
      clear c0 c1 c2 hlr her
      generalize wr.alloc (.cells #[.int .i64 (F : Int), .int .i64 (T : Int), .slice ax x.length cx] 127) = w2 at *
      obtain ⟨e0, e1, e2, -⟩ := hB.three
      have hn0 : la = none → F = 0 := fun h => by have := HA0.out h; omega
      have HN0 := Lib.hid hn0
      clear hn0
      go_region_law (first | (go_simp; go_at_call 45; refine (ref_applied la (some ⟨b1, o1, none⟩) F c k mc (l.take F) (es.take k) _ (hl1.take F).drew LF.out HN0.out ((he1.take k).drewN 1) LK.out (by omega) (by omega) HGT.out HG3.out).mono ?_; rintro e w4 ⟨v4, rfl, o4, hb4⟩; obtain ⟨a4, n4, c4, rfl⟩ := o4.form; have hnn := o4.get.1; rw [HD.out] at hnn; obtain rfl : D = n4 := hnn))
      all_goals
        have hb5 := below_then hb1.drew hb1.size hb4
        have hB5 := hB.drew.below hb4 hB.lt
        have hown5 := hown1.drew.kept hb4
        have hl5 := hl1.drew.below hb4
        clear hb4 e0 e1 e2 o4
        go_upto_region 6 with fail
        obtain ⟨e0, e1, e2, -⟩ := hB5.three
        have hcut := hl5.cutTo (c := c) F T (by rw [HN.out]; omega) (by omega) (by rw [HN.out]; omega)
        have HCL := Lib.hid (show ((l.take T).drop F).length = T - F by rw [List.length_drop, List.length_take, HN.out]; omega)
        have HC0 := Lib.hid (show cutA la c F = none → T - F = 0 from fun h => by have := HA0.out (cutA_none h); omega)
        have hsz := hb5.size
        have iw1 : IntKind.i64.wrap ((D : Int) + (x.length : Int)) = (D : Int) + (x.length : Int) := IntWalk.i64_in _ (by omega)
        go_region_law (first | (go_simp; go_at_call 88; refine (slices_clone (cutA la c F) (T - F) (c - F) ((l.take T).drop F) _ hcut.drew HCL.out (by omega) HC0.out).mono ?_; rintro e w8 ⟨v8, rfl, o8, hb8⟩; obtain ⟨a8, n8, c8, rfl⟩ := o8.form; have hB8 := hB5.drew.below hb8 hB5.lt; have hown8 := hown5.drew.kept hb8; have hb80 := below_then hb5.drew hsz hb8; obtain ⟨k0, k1, k2, -⟩ := hB8.three) | (refine step_sapp1 (by rfl) _ _ rfl w.heap.size u5 us acc ⟨(D : Int), (D : Int) + (x.length : Int), a8, n8, c8⟩ p _ rfl rfl (hown8.alloc _) (sv_is HP.out (o8.mono hsz)) (Blk.new _ _ _) (by have := HAC.out; omega) (size_alloc_le hb80.size _) ?_; intro v9 w9 hown9 hgrow9))
        all_goals
          have hb9 := (hb80.alloc hb80.size _).grown hgrow9 (size_alloc_le hb80.size _) hown8.row
          go_wp2
          go_roundw
          case rel => exact ⟨k + 1, _, _, _, by go_num, by omega, HA2, HGS, Lib.hid (by simp [HAC.out]), hown9, hb9⟩
          case measure => simp [intOf]; omega
    · obtain rfl : m = k := by omega
      have hd : es.drop m = [] := by rw [List.drop_eq_nil_iff, HM.out]; omega
      have ha' := HA.out
      rw [hd] at ha'
      simp only [unP, List.append_nil] at ha'
      have HA2 := Lib.hid ha'
      clear ha' hd HA HMV
      go_wp2
      go_ret
      rw [HA2.out] at hown
      exact ⟨_, _, rfl, hown, hbr⟩

end Go.Proofs.Ytbgbcmfgncneiaa
