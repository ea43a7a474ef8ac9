/- Contract of splice.Undo. -/
import Derived.Test.YtbgbcmfgncneiaaSpl2
import Derived.Test.YtbgbcmfgncneiaaSRow
namespace Go.Proofs.Ytbgbcmfgncneiaa
open Go.RowKit
set_option linter.unusedVariables false
set_option linter.unusedSimpArgs false

/-- the edit that takes an edit back -/
def unP (l : List Int) : Int → List Sp → List Sp
  | _, [] => []
  | mv, s :: r => ⟨s.f + mv, s.f + mv + (s.x.length : Int), (l.take s.t.toNat).drop s.f.toNat⟩ :: unP l (mv + ((s.x.length : Int) - (s.t - s.f))) r
def UnPost (l : List Int) (es : List Sp) (w : World) (e : Ending) (w' : World) : Prop := ∃ v us, e = .returned (.tuple #[v, .int .i64 0]) ∧ SOwn w.heap.size w' v us (unP l 0 es) ∧ Below w.heap.size w w'

theorem unP_len (l : List Int) (es : List Sp) : ∀ mv, (unP l mv es).length = es.length := by
  induction es with
  | nil => intro mv; rfl
  | cons s r ih => intro mv; simp [unP, ih]
/-- a right edit has no more splices than places -/
theorem Good.count {n : Int} {es : List Sp} : ∀ {last : Int}, Good n last es → last ≤ n → (es.length : Int) ≤ n - last := by
  induction es with
  | nil => intro last h hl; simp; omega
  | cons s r ih =>
    intro last h hl
    obtain ⟨a, b, c, d, e, g⟩ := h
    have := ih g c
    simp only [List.length_cons]
    omega
/-- the bounds of the shift, from a place on: what is left can only shrink so far -/
theorem grow_lo {n : Int} {es : List Sp} (h0 : 0 ≤ n) : ∀ {last : Int}, Good n last es → last ≤ n → -1 ≤ last → -(n - max last 0) ≤ grow es := by
  induction es with
  | nil => intro last h hl hl2; simp [grow]; omega
  | cons s r ih =>
    intro last h hl hl2
    obtain ⟨a, b, c, d, e, g⟩ := h
    have := ih g c (by omega)
    simp only [grow]
    omega

theorem sv_is {w : World} {o : Obj} {base : Nat} {f t : Int} {a : Option Addr} {n c : Nat} {x : List Int} {p : Sp} (hp : p = ⟨f, t, x⟩) (h : Own 3 base w (.slice a n c) x) : SV.is (w.alloc o) base ⟨f, t, a, n, c⟩ p := by
  subst hp; exact ⟨rfl, rfl, h.alloc o⟩

set_option maxRecDepth 100000 in
set_option maxHeartbeats 4000000 in
theorem splice_undo (la a : Option Addr) (n c m mc : Nat) (l : List Int) (es : List Sp) (w : World) (hl : Ints w la l) (hn : l.length = n) (hc : n ≤ c) (hc2 : c ≤ 9223372036854775807) (ha : la = none → n = 0)
    (he : Spls w a es) (hm : es.length = m) (hm2 : m ≤ 9223372036854775807) (hok : ckE n es = 0) :
    Calls Try.prog 41 #[.slice la n c, .slice a m mc] w (UnPost l es w) := by
  obtain ⟨g1, g2, hg, g3⟩ := ckE_good hok
  have hcnt := hg.count (by omega)
  have HG := Lib.hid hg
  have HOK := Lib.hid hok
  have HN := Lib.hid hn
  have HM := Lib.hid hm
  rw [hm] at hcnt
  clear hg hok hn hm
  go_enter Try.func41, Try.ntmps41
  go_wp2_with fail
  refine (splice_check a m mc es n w he HM.out hm2).mono ?_
  rintro e w1 ⟨rfl, hb⟩
  rw [HOK.out]
  go_wp2
  go_loopw [7, 8, 21] (fun v u i wr => ∃ (k : Nat) (L mv : Int) (us : List SV) (acc : List Sp), u = .int .i64 mv ∧ i = .int .i64 (k : Int) ∧ k ≤ m ∧ Hid (acc ++ unP l mv (es.drop k) = unP l 0 es) ∧ Hid (Good (n : Int) L (es.drop k)) ∧ Hid (mv + grow (es.drop k) = grow es) ∧ -1 ≤ L ∧ L ≤ n ∧ -max L 0 ≤ mv ∧ mv ≤ 4096 ∧ Hid (acc.length = k) ∧
      SOwn w.heap.size wr v us acc ∧ Below w.heap.size w wr) (fun _ _ i _ => m - (intOf i).toNat)
  case atStart => exact ⟨0, -1, 0, [], [], rfl, rfl, by omega, Lib.hid rfl, HG, Lib.hid (by simp), by omega, by omega, by omega, by omega, Lib.hid rfl, SOwn.nil _ _, hb⟩
  case round =>
    clear hb
    obtain ⟨k, L, mv, us, acc, rfl, rfl, hk, HA, HGL, HGR, hL1, hL2, hmv1, hmv2, HAC, hown, hbr⟩ := hrel
    by_cases hlt : k < m
    · obtain ⟨b1, o1, rfl, hcc⟩ := he.at (k := k) (by rw [HM.out]; exact hlt)
      obtain ⟨ax, cx, c0, c1, c2, cI, y1, y2, y3⟩ := hcc k (by rw [HM.out]; exact hlt)
      replace c0 := below_keeps hbr _ _ c0
      replace c1 := below_keeps hbr _ _ c1
      replace c2 := below_keeps hbr _ _ c2
      have hd := drop_sp (es := es) (i := k) (by rw [HM.out]; exact hlt)
      generalize sp es k = s at *
      obtain ⟨f, t, x⟩ := s
      simp only at c0 c1 c2 cI y1 y2 y3
      have hg' := HGL.out
      have ha' := HA.out
      have hr' := HGR.out
      rw [hd] at hg' ha' hr'
      obtain ⟨z1, z2, z3, -, z4, hg2⟩ := hg'
      simp only at z1 z2 z3 z4 hg2
      simp only [unP] at ha'
      simp only [grow] at hr'
      have hlo := grow_lo g1 hg2 z3 (by omega)
      clear hd HA HGL HGR
      obtain ⟨F, rfl⟩ := Int.eq_ofNat_of_zero_le (show 0 ≤ f by omega)
      obtain ⟨T, rfl⟩ := Int.eq_ofNat_of_zero_le (show 0 ≤ t by omega)
      have hmv3 : mv + ((x.length : Int) - ((T : Int) - (F : Int))) ≤ 4096 := by omega
      obtain ⟨p, hp⟩ : ∃ p : Sp, p = ⟨(F : Int) + mv, (F : Int) + mv + (x.length : Int), (l.take T).drop F⟩ := ⟨_, rfl⟩
      have ha2 : (acc ++ [p]) ++ unP l (mv + ((x.length : Int) - ((T : Int) - (F : Int)))) (es.drop (k + 1)) = unP l 0 es := by rw [hp]; simpa [List.append_assoc] using ha'
      have HA2 := Lib.hid ha2
      have HG2 := Lib.hid hg2
      have HR2 := Lib.hid (show (mv + ((x.length : Int) - ((T : Int) - (F : Int)))) + grow (es.drop (k + 1)) = grow es by omega)
      have HP := Lib.hid hp
      clear ha' ha2 hg2 hr' hp hlo
      have i1 : (k : Int) < (m : Int) := by omega
      have hlr := hl.below hbr
      have hcr := cut_run la n c F T (by omega) (by omega)
      have hne := hown.neOf (Nat.le_refl _)
      go_upto_region 9 with fail
      have hB := Blk.new wr #[.int .i64 (F : Int), .int .i64 (T : Int), .slice ax x.length cx] 127
      have hb1 := hbr.alloc hbr.size (.cells #[.int .i64 (F : Int), .int .i64 (T : Int), .slice ax x.length cx] 127)
      have hl1 := hlr.below (below1 wr (.cells #[.int .i64 (F : Int), .int .i64 (T : Int), .slice ax x.length cx] 127))
      have hown1 := hown.alloc (.cells #[.int .i64 (F : Int), .int .i64 (T : Int), .slice ax x.length cx] 127)
      generalize wr.alloc (.cells #[.int .i64 (F : Int), .int .i64 (T : Int), .slice ax x.length cx] 127) = w2 at *
      obtain ⟨e0, e1, e2, -⟩ := hB.three
      have hcut := hl1.cutTo (c := c) F T (by rw [HN.out]; omega) (by omega) (by rw [HN.out]; omega)
      have HCL := Lib.hid (show ((l.take T).drop F).length = T - F by rw [List.length_drop, List.length_take, HN.out]; omega)
      have HC0 := Lib.hid (show cutA la c F = none → T - F = 0 from fun h => by have := ha (cutA_none h); omega)
      clear ha
      have hsz := hb1.size
      have iw1 : IntKind.i64.wrap ((F : Int) + mv + (x.length : Int)) = (F : Int) + mv + (x.length : Int) := IntWalk.i64_in _ (by omega)
      go_upto_region 10 with fail
      go_region_law (first | (go_simp; go_at_call 88; refine (slices_clone (cutA la c F) (T - F) (c - F) ((l.take T).drop F) _ hcut.drew HCL.out (by omega) HC0.out).mono ?_; rintro e w8 ⟨v8, rfl, o8, hb8⟩; obtain ⟨a8, n8, c8, rfl⟩ := o8.form; have hB8 := hB.drew.below hb8 hB.lt; have hown8 := hown1.drew.kept hb8; have hb80 := below_then hb1.drew hsz hb8; obtain ⟨k0, k1, k2, -⟩ := hB8.three) | (refine step_sapp1 (by rfl) _ _ rfl w.heap.size u7 us acc ⟨(F : Int) + mv, (F : Int) + mv + (x.length : Int), a8, n8, c8⟩ p _ rfl rfl (hown8.alloc _) (sv_is HP.out (o8.mono hsz)) (Blk.new _ _ _) (by have := HAC.out; omega) (size_alloc_le hb80.size _) ?_; intro v9 w9 hown9 hgrow9))
      all_goals
        have hB9 := (hB8.alloc _).grown hgrow9 hne
        have hb9 := (hb80.alloc hb80.size _).grown hgrow9 (size_alloc_le hb80.size _) hown8.row
        obtain ⟨p0, p1, p2, -⟩ := hB9.three
        go_wp2
        go_roundw
        case rel => exact ⟨k + 1, (T : Int), _, _, _, rfl, by go_num, by omega, HA2, HG2, HR2, by omega, by omega, by omega, by omega, Lib.hid (by simp [HAC.out]), hown9, hb9⟩
        case measure => simp [intOf]; omega
    · obtain rfl : m = k := by omega
      have hd : es.drop m = [] := by rw [List.drop_eq_nil_iff, HM.out]; omega
      have ha' := HA.out
      rw [hd] at ha'
      simp only [unP, List.append_nil] at ha'
      have HA2 := Lib.hid ha'
      clear ha' hd HA HGL
      go_wp2
      go_ret2
      rw [HA2.out] at hown
      exact ⟨_, _, rfl, hown, hbr⟩

end Go.Proofs.Ytbgbcmfgncneiaa
