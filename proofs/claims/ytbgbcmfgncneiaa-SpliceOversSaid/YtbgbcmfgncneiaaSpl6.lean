/- Contract of fairref.SameEdit at two edits that are one. -/
import Derived.Test.YtbgbcmfgncneiaaSpl1
namespace Go.Proofs.Ytbgbcmfgncneiaa
open Go.RowKit
set_option linter.unusedVariables false
set_option linter.unusedSimpArgs false

def TruePost (w : World) (e : Ending) (w' : World) : Prop := e = .returned (.bool true) ∧ Below w.heap.size w w'

set_option maxRecDepth 100000 in
theorem same_spl (f t : Int) (a b : Option Addr) (n ca cb : Nat) (x : List Int) (w : World) (ha : Ints w a x) (hb : Ints w b x) (hn : x.length = n) (hc : n ≤ ca) (hc2 : ca ≤ 9223372036854775807) :
    Calls Try.prog 100 #[.agg #[.int .i64 f, .int .i64 t, .slice a n ca], .agg #[.int .i64 f, .int .i64 t, .slice b n cb]] w (TruePost w) := by
  have HN := Lib.hid hn
  clear hn
  have hA := (Blk.new w #[.int .i64 f, .int .i64 t, .slice a n ca] 127).alloc (.cells #[.int .i64 f, .int .i64 t, .slice b n cb] 127)
  have hB := Blk.new (w.alloc (.cells #[.int .i64 f, .int .i64 t, .slice a n ca] 127)) #[.int .i64 f, .int .i64 t, .slice b n cb] 127
  rw [World.size_alloc] at hB
  have hacc := below2 w (.cells #[.int .i64 f, .int .i64 t, .slice a n ca] 127) (.cells #[.int .i64 f, .int .i64 t, .slice b n cb] 127)
  have h1 := ha.below hacc
  have h2 := hb.below hacc
  go_enter Try.func100, Try.ntmps100
  go_upto_region 1 with fail
  generalize (w.alloc (.cells #[.int .i64 f, .int .i64 t, .slice a n ca] 127)).alloc (.cells #[.int .i64 f, .int .i64 t, .slice b n cb] 127) = w1 at *
  obtain ⟨c0, c1, c2, -⟩ := hA.three
  obtain ⟨d0, d1, d2, -⟩ := hB.three
  go_wp2_with fail
  refine (slices_same a b n n ca cb x w1 h1 h2 HN.out HN.out (by omega)).mono ?_
  rintro e w2 ⟨rfl, q, rfl⟩
  go_wp2
  go_ret
  exact ⟨rfl, below_drewN hacc q⟩

set_option maxRecDepth 100000 in
theorem same_edits (a b : Option Addr) (m ca cb : Nat) (es : List Sp) (w : World) (ha : Spls w a es) (hb : Spls w b es) (hm : es.length = m) (hm2 : m ≤ 9223372036854775807) :
    Calls Try.prog 99 #[.slice a m ca, .slice b m cb, .func (.func 100) #[] #[]] w (TruePost w) := by
  have HM := Lib.hid hm
  clear hm
  go_enter Try.func99, Try.ntmps99
  go_wp2
  go_loopw [17] (fun i wr => ∃ k : Nat, i = .int .i64 (k : Int) ∧ k ≤ m ∧ Below w.heap.size w wr) (fun i _ => m - (intOf i).toNat)
  case atStart => exact ⟨0, rfl, by omega, Below.refl _ _⟩
  case round =>
    obtain ⟨k, rfl, hk, hbr⟩ := hrel
    by_cases hlt : k < m
    · obtain ⟨b1, o1, rfl, hc1⟩ := ha.at (k := k) (by rw [HM.out]; exact hlt)
      obtain ⟨b2, o2, rfl, hc2⟩ := hb.at (k := k) (by rw [HM.out]; exact hlt)
      obtain ⟨ax, cx, c0, c1, c2, cI, y1, y2, y3⟩ := hc1 k (by rw [HM.out]; exact hlt)
      obtain ⟨bx, dx, d0, d1, d2, dI, -⟩ := hc2 k (by rw [HM.out]; exact hlt)
      replace c0 := below_keeps hbr _ _ c0
      replace c1 := below_keeps hbr _ _ c1
      replace c2 := below_keeps hbr _ _ c2
      replace d0 := below_keeps hbr _ _ d0
      replace d1 := below_keeps hbr _ _ d1
      replace d2 := below_keeps hbr _ _ d2
      replace cI := cI.below hbr
      replace dI := dI.below hbr
      generalize sp es k = s at *
      obtain ⟨f, t, x⟩ := s
      simp only at c0 c1 c2 cI y1 y2 y3 d0 d1 d2 dI
      have i1 : (k : Int) < (m : Int) := by omega
      have b1x := below1 wr (.cells #[.int .i64 f, .int .i64 t, .slice ax x.length cx] 127)
      go_upto_region 6 with fail
      replace hbr := below_then hbr hbr.size b1x
      replace d0 := below_keeps b1x _ _ d0
      replace d1 := below_keeps b1x _ _ d1
      replace d2 := below_keeps b1x _ _ d2
      replace cI := cI.below b1x
      replace dI := dI.below b1x
      have hA := Blk.new wr #[.int .i64 f, .int .i64 t, .slice ax x.length cx] 127
      clear c0 c1 c2 b1x
      generalize wr.alloc (.cells #[.int .i64 f, .int .i64 t, .slice ax x.length cx] 127) = w1 at *
      have b2x := below1 w1 (.cells #[.int .i64 f, .int .i64 t, .slice bx x.length dx] 127)
      go_upto_region 7 with fail
      replace hbr := below_then hbr hbr.size b2x
      replace cI := cI.below b2x
      replace dI := dI.below b2x
      have hB := Blk.new w1 #[.int .i64 f, .int .i64 t, .slice bx x.length dx] 127
      replace hA := hA.alloc (.cells #[.int .i64 f, .int .i64 t, .slice bx x.length dx] 127)
      clear d0 d1 d2 b2x
      generalize w1.alloc (.cells #[.int .i64 f, .int .i64 t, .slice bx x.length dx] 127) = w3 at *
      obtain ⟨c0, c1, c2, -⟩ := hA.three
      obtain ⟨d0, d1, d2, -⟩ := hB.three
      go_wp2_with (go_at_call 100; refine (same_spl f t ax bx x.length cx dx x _ cI dI rfl y1 y2).mono ?_; rintro e w2 ⟨rfl, hb2⟩)
      go_roundw
      case rel => exact ⟨k + 1, by go_num, by omega, below_then hbr hbr.size hb2⟩
      case measure => simp [intOf]; omega
    · obtain rfl : m = k := by omega
      go_wp2
      go_ret
      exact ⟨rfl, hbr⟩

set_option maxRecDepth 100000 in
theorem edit_same (a b : Option Addr) (m ca cb : Nat) (es : List Sp) (w : World) (ha : Spls w a es) (hb : Spls w b es) (hm : es.length = m) (hm2 : m ≤ 9223372036854775807) :
    Calls Try.prog 38 #[.slice a m ca, .slice b m cb] w (TruePost w) := by
  have HM := Lib.hid hm
  clear hm
  go_enter Try.func38, Try.ntmps38
  go_wp2_with fail
  refine (same_edits a b m ca cb es w ha hb HM.out hm2).mono ?_
  rintro e w2 ⟨rfl, hb2⟩
  go_wp2
  go_ret
  exact ⟨rfl, hb2⟩

end Go.Proofs.Ytbgbcmfgncneiaa
