/- Contract of term.Show. -/
import Derived.Test.YthnjaichbejifaaTerm3
import Derived.Deep.DeepCutAuto
namespace Go.Proofs.Ythnjaichbejifaa
open Go.RowKit
set_option linter.unusedVariables false
set_option linter.unusedSimpArgs false

/-- the row after the first k signs -/
def termRun (l : List Int) (s : List Int × Nat) : Nat → List Int × Nat
  | 0 => s
  | k + 1 => termStep (ix l k) (termRun l s k)
theorem termRun_len (l : List Int) (s : List Int × Nat) (k : Nat) (h : s.2 ≤ s.1.length) : (termRun l s k).1.length = s.1.length ∧ (termRun l s k).2 ≤ s.1.length := by
  induction k with
  | zero => exact ⟨rfl, h⟩
  | succ k ih =>
    have := termStep_len (ix l k) (termRun l s k) (by rw [ih.1]; exact ih.2)
    simp only [termRun]; rw [ih.1] at this; exact this

/-- what lies in memory behind the copy of the row: its block B, its numbers in block g -/
structure ShowSt (w2 W : World) (B g n c p : Nat) (xs : List Int) : Prop where
  blk : Blk W B #[.slice (some ⟨g, 0, none⟩) n c, .int .i64 (p : Int)] 46
  row : RowB w2.heap.size W g n c xs
  ne : g ≠ B
  lo : w2.heap.size ≤ B
  bel : Below w2.heap.size w2 W
theorem ShowSt.late {w2 w8 : World} {g n c p : Nat} {xs : List Int} (o8 : Own 3 w2.heap.size w8 (.slice (some ⟨g, 0, none⟩) n c) xs) (hb : Below w2.heap.size w2 w8) (hg : g < w8.heap.size) :
    ShowSt w2 (w8.alloc (.cells #[.slice (some ⟨g, 0, none⟩) n c, .int .i64 (p : Int)] 46)) w8.heap.size g n c p xs :=
  ⟨Blk.new _ _ _, o8.rowB.alloc _, by omega, hb.size, hb.alloc hb.size _⟩
theorem ShowSt.early {w2 w8 : World} {g n c p : Nat} {xs : List Int} (o8 : Own 3 (w2.alloc (.cells #[.slice none 0 0, .int .i64 0] 46)).drew.heap.size w8 (.slice (some ⟨g, 0, none⟩) n c) xs) (hb : Below (w2.alloc (.cells #[.slice none 0 0, .int .i64 0] 46)).drew.heap.size (w2.alloc (.cells #[.slice none 0 0, .int .i64 0] 46)).drew w8)
    (hQ : Blk w8 w2.heap.size #[.slice none 0 0, .int .i64 0] 46) :
    ShowSt w2 ((w8.setCell ⟨w2.heap.size, 0, none⟩ (.slice (some ⟨g, 0, none⟩) n c)).setCell ⟨w2.heap.size, 1, none⟩ (.int .i64 (p : Int))) w2.heap.size g n c p xs := by
  have hs : (w2.alloc (.cells #[.slice none 0 0, .int .i64 0] 46)).drew.heap.size = w2.heap.size + 1 := World.size_alloc _ _
  rw [hs] at o8 hb
  have h := o8.rowB
  have hlo := h.lo
  have hb2 : Below w2.heap.size w2 w8 := (below1 w2 _).drew.trans (hb.mono (by omega))
  exact ⟨(hQ.set 0 _).set 1 _, ((h.other (by show g ≠ w2.heap.size; omega) _).other (by show g ≠ w2.heap.size; omega) _).mono (by omega), by omega, Nat.le_refl _, (hb2.setCell (p := ⟨w2.heap.size, 0, none⟩) (Nat.le_refl _) _).setCell (p := ⟨w2.heap.size, 1, none⟩) (Nat.le_refl _) _⟩

def ShowBad (er : Int) (w : World) (e : Ending) (w' : World) : Prop := e = .returned (.tuple #[.agg #[.slice none 0 0, .int .i64 0], .int .i64 er]) ∧ Below w.heap.size w w'
def ShowPost (n : Nat) (s : List Int × Nat) (w : World) (e : Ending) (w' : World) : Prop :=
  ∃ g c, e = .returned (.tuple #[.agg #[.slice (some ⟨g, 0, none⟩) n c, .int .i64 (s.2 : Int)], .int .i64 0]) ∧ Ints w' (some ⟨g, 0, none⟩) s.1 ∧ Below w.heap.size w w'

set_option maxRecDepth 100000 in
theorem term_show_bad (a a2 : Option Addr) (n c n2 c2 : Nat) (xs : List Int) (p : Int) (w : World) (ha : Ints w a xs) (hn : xs.length = n) (h2 : n ≤ 9223372036854775807) (he : rowErr xs p ≠ 0) :
    Calls Try.prog 78 #[.agg #[.slice a n c, .int .i64 p], .slice a2 n2 c2] w (ShowBad (rowErr xs p) w) := by
  have HN := Lib.hid hn; clear hn
  obtain ⟨er, her⟩ : ∃ er, rowErr xs p = er := ⟨_, rfl⟩
  rw [her] at he ⊢
  have HE := Lib.hid her
  have g1 : (er != 0) = true := by simpa using he
  have hb := below2 w (.cells #[.slice a n c, .int .i64 p] 46) (.cells #[.slice none 0 0, .int .i64 0] 46)
  have hA := Blk.new (w.alloc (.cells #[.slice a n c, .int .i64 p] 46)) #[.slice none 0 0, .int .i64 0] 46
  rw [World.size_alloc] at hA
  clear her
  go_enter Try.func78, Try.ntmps78
  go_wp2_with fail
  refine (term_check a n c xs p _ (ha.below hb) HN.out h2).mono ?_
  rintro e w2 ⟨rfl, hb2⟩
  rw [HE.out]
  have hA2 := hA.below hb2 hA.lt
  obtain ⟨d0, d1, g0, g1'⟩ := hA2.two
  have hbel := below_then hb hb.size hb2
  go_wp2
  have hG := ((hA2.set 0 (.slice none 0 0)).set 1 (.int .i64 0))
  obtain ⟨y0, y1, -, -⟩ := Blk.two hG
  refine bodyPost_ret (v := .tuple #[.agg #[.slice none 0 0, .int .i64 0], .int .i64 er]) (by simp [results, Try.results78, go_sem, y0, y1]) rfl ?_
  exact ⟨rfl, (hbel.setCell (p := ⟨w.heap.size + 1, 0, none⟩) (Nat.le_succ _) _).setCell (p := ⟨w.heap.size + 1, 1, none⟩) (Nat.le_succ _) _⟩

set_option maxRecDepth 100000 in
set_option maxHeartbeats 2000000 in
theorem term_show (a a2 : Option Addr) (n c n2 c2 p : Nat) (xs l : List Int) (w : World) (ha : Ints w a xs) (hn : xs.length = n) (hl : Ints w a2 l) (hn2 : l.length = n2) (h22 : n2 ≤ 9223372036854775807) (he : rowErr xs p = 0) (h1 : 2 ≤ n) (h2 : n ≤ 120) (h3 : p ≤ n) (h0 : a = none → n = 0) :
    Calls Try.prog 78 #[.agg #[.slice a n c, .int .i64 (p : Int)], .slice a2 n2 c2] w (ShowPost n (termRun l (xs, p) n2) w) := by
  have HN := Lib.hid hn; have HN2 := Lib.hid hn2; clear hn hn2
  have HE := Lib.hid he; clear he
  have H0 := Lib.hid h0; clear h0
  have hb := below2 w (.cells #[.slice a n c, .int .i64 (p : Int)] 46) (.cells #[.slice none 0 0, .int .i64 0] 46)
  have hA := Blk.new (w.alloc (.cells #[.slice a n c, .int .i64 (p : Int)] 46)) #[.slice none 0 0, .int .i64 0] 46
  have hP := (Blk.new w #[.slice a n c, .int .i64 (p : Int)] 46).alloc (.cells #[.slice none 0 0, .int .i64 0] 46)
  rw [World.size_alloc] at hA
  go_enter Try.func78, Try.ntmps78
  go_wp2_with fail
  refine (term_check a n c xs p _ (ha.below hb) HN.out (by omega)).mono ?_
  rintro e w2 ⟨rfl, hb2⟩
  rw [HE.out]
  have hA2 := hA.below hb2 hA.lt
  have hP2 := hP.below hb2 hP.lt
  have hbel := below_then hb hb.size hb2
  have ha2 := ha.below hbel
  have hl2 := hl.below hbel
  clear hb hb2 hA hP ha hl
  obtain ⟨c0, c1, -, -⟩ := hP2.two
  have z2 := hP2.lt
  go_upto_region 4 with fail
  go_cut [7] (fun v wx => ∃ B9 g8 c8, v = .pointer (some ⟨B9, 0, none⟩) ∧ ShowSt w2 wx B9 g8 n c8 p xs ∧ n ≤ c8)
  case first =>
    go_region_law (first | (go_simp; go_at_call 22; refine (slices_clone a n c xs _ (ha2.keep (by intro q u hq; first | exact hq | exact below_keeps (below1 _ _) _ _ hq)) HN.out (by omega) H0.out).mono ?_; rintro e w8 ⟨v8, rfl, o8, hbel8⟩; obtain ⟨g8, k8, c8, rfl, m1, m2, m3, m4, m5, m6, m7⟩ := o8.full (by have := HN.out; omega); obtain rfl : n = k8 := (by have := HN.out; omega); have k1 : w8.cell? ⟨w.heap.size, 1, none⟩ = some (.int .i64 (p : Int)) := below_keeps hbel8 _ _ (by first | exact c1 | exact below_keeps (below1 _ _) _ _ c1); have z8 : w.heap.size < w8.heap.size := cell_lt k1; (first | (have hQ : Blk w8 w2.heap.size #[.slice none 0 0, .int .i64 0] 46 := ((Blk.new w2 #[.slice none 0 0, .int .i64 0] 46).drew).below hbel8 (by show _ < (w2.alloc _).heap.size; rw [World.size_alloc]; exact Nat.lt_succ_self _); obtain ⟨q0, q1, q2, q3⟩ := hQ.two) | skip)))
    all_goals
      first
      | (have hS := ShowSt.late (p := p) (show Own 3 w2.heap.size w8 (.slice (some ⟨g8, 0, none⟩) n c8) xs from o8) (show Below w2.heap.size w2 w8 from ⟨hbel8.os, hbel8.tape, hbel8.output, hbel8.size, hbel8.block⟩) m6
         go_wp2
         go_meet
         exact ⟨_, _, _, rfl, hS, m3⟩)
      | (have hS := ShowSt.early (p := p) o8 hbel8 hQ
         go_wp2
         go_meet
         exact ⟨_, _, _, rfl, hS, m3⟩)
  case rest =>
    obtain ⟨B9, g8, c8, rfl, hS, hn8⟩ := hcut
    have HS := Lib.hid hS
    have hA9 := hA2.below hS.bel (by have := hA2.lt; omega)
    have hB9l := hS.blk.lt
    have hne9 : w.heap.size + 1 ≠ B9 := by have := hA2.lt; have := hS.lo; omega
    have hb9 := below_then hbel hbel.size hS.bel
    have hl9 := hl2.below hS.bel
    have hlo9 := hS.lo
    have hsz2 := hbel.size
    have hlt2 := hA2.lt
    have hg9 := hS.row.lo
    have hne := hS.ne
    clear hS
    go_wp2
    go_loopw [24] (fun i wr => ∃ k : Nat, i = .int .i64 (k : Int) ∧ k ≤ n2 ∧ Blk wr B9 #[.slice (some ⟨g8, 0, none⟩) n c8, .int .i64 ((termRun l (xs, p) k).2 : Int)] 46 ∧ RowB w2.heap.size wr g8 n c8 (termRun l (xs, p) k).1 ∧ Below w2.heap.size wc wr) (fun i _ => n2 - (intOf i).toNat)
    case atStart => exact ⟨0, rfl, by omega, HS.out.blk, HS.out.row, Below.refl _ _⟩
    case round =>
      obtain ⟨k, rfl, hk, hB, hR, hbr⟩ := hrel
      have hlw : Below w2.heap.size w2 wr := HS.out.bel.trans hbr
      have hpk : (termRun l (xs, p) k).2 ≤ n := by
        have := (termRun_len l (xs, p) k (by have := HN.out; show p ≤ xs.length; omega)).2
        have hh := HN.out
        rw [show (xs, p).1.length = n from hh] at this; exact this
      by_cases hlt : k < n2
      · obtain ⟨b1, o1, rfl, hc0⟩ := hl2.at (k := k) (by rw [HN2.out]; exact hlt)
        have ck : wr.cell? ⟨b1, o1 + k, none⟩ = some (.int .i64 (ix l k)) := by
          have := hc0 k (by rw [HN2.out]; exact hlt)
          rw [hlw.cell (cell_lt this)]; exact this
        have i1 : (k : Int) < (n2 : Int) := by omega
        clear hc0
        go_wp2_with fail
        refine (term_one w2.heap.size B9 g8 n c8 (termRun l (xs, p) k).2 (ix l k) (termRun l (xs, p) k).1 wr hB hR hlo9 hne hpk h2).mono ?_
        rintro e w7 ⟨rfl, hB7, hR7, hb7⟩
        go_wp2
        go_roundw
        case rel => exact ⟨k + 1, by go_num, by omega, hB7, hR7, hbr.trans hb7⟩
        case measure => simp [intOf]; omega
      · obtain rfl : n2 = k := by omega
        obtain ⟨y0, y1, -, -⟩ := hB.two
        have hAr := hA9.below hbr hlt2
        obtain ⟨d0, d1, f0, f1⟩ := hAr.two
        go_wp2
        have hG := ((hAr.set 0 (.slice (some ⟨g8, 0, none⟩) n c8)).set 1 (.int .i64 ((termRun l (xs, p) n2).2 : Int)))
        obtain ⟨x0, x1, -, -⟩ := Blk.two hG
        refine bodyPost_ret (v := .tuple #[.agg #[.slice (some ⟨g8, 0, none⟩) n c8, .int .i64 ((termRun l (xs, p) n2).2 : Int)], .int .i64 0]) (by simp [results, Try.results78, go_sem, x0, x1]) rfl ?_
        refine ⟨g8, c8, rfl, ((hR.other (by show g8 ≠ w.heap.size + 1; omega) _).other (by show g8 ≠ w.heap.size + 1; omega) _).ints, ?_⟩
        exact (((below_then hbel hbel.size hlw)).setCell (p := ⟨w.heap.size + 1, 0, none⟩) (Nat.le_succ _) _).setCell (p := ⟨w.heap.size + 1, 1, none⟩) (Nat.le_succ _) _

end Go.Proofs.Ythnjaichbejifaa
