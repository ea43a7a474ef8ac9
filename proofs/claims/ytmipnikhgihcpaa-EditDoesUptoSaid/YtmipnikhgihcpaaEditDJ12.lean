/- LiftEditDoes, part 12: joined from the texts Ds9 DsA DsAt DsAp DsB Ds5. No condition of its own. -/
import Derived.Test.YtmipnikhgihcpaaEditDJ1
import Derived.Test.YtmipnikhgihcpaaEditDJ4
import Derived.Test.YtmipnikhgihcpaaEditDJ6
import Derived.Test.YtmipnikhgihcpaaEditDJ9
import Derived.Test.YtmipnikhgihcpaaEditDJ11
import Derived.Deep.RegionHeld3
import Derived.Lib.QuoteBits
set_option linter.unusedVariables false
set_option linter.unusedSimpArgs false
namespace Go.Proofs.Ytmipnikhgihcpaa
open Go.RowKit
theorem boxes4 (w : World) (l c z : Array Value) (vs : List Value) (tl tr tc tz : TypeId) :
  let W := (((w.alloc (.cells l tl)).alloc (.cells (rgA vs) tr)).alloc (.cells c tc)).alloc (.cells z tz)
  Blk W w.heap.size l tl ∧ BlkR W (w.heap.size + 1) vs tr ∧ Blk W (w.heap.size + 2) c tc ∧ Blk W (w.heap.size + 3) z tz ∧ Below w.heap.size w W ∧ W.heap.size = w.heap.size + 4 := by
 have h1 := Blk.new w l tl
 have h2 := Blk.new (w.alloc (.cells l tl)) (rgA vs) tr
 have h3 := Blk.new ((w.alloc (.cells l tl)).alloc (.cells (rgA vs) tr)) c tc
 have h4 := Blk.new (((w.alloc (.cells l tl)).alloc (.cells (rgA vs) tr)).alloc (.cells c tc)) z tz
 simp only [World.size_alloc] at h2 h3 h4
 exact ⟨((h1.alloc _).alloc _).alloc _, (h2.alloc _).alloc _, h3.alloc _, h4, (((below1 w _).alloc (by simp only [World.size_alloc]; omega) _).alloc (by simp only [World.size_alloc]; omega) _).alloc (by simp only [World.size_alloc]; omega) _, by simp only [World.size_alloc]⟩
theorem wrap_in {x : Int} (h0 : 0 ≤ x) (h1 : x < 9223372036854775808) : IntKind.i64.wrap x = x := by
 obtain ⟨n, rfl⟩ := Int.eq_ofNat_of_zero_le h0
 exact Lib.wrap_i64_small n (by omega)
theorem wrap2 {x y : Int} (h0 : 0 ≤ x) (h1 : x ≤ 1000) (h2 : 0 ≤ y) (h3 : y ≤ 1000) : IntKind.i64.wrap (IntKind.i64.wrap (x + y) - 1) = x + y - 1 := by
 rw [IntKind.wrap_i64, IntKind.wrap_i64]; omega
theorem size_line : (Try.prog.info? 131).map (·.size) = some 2 := by kernel_rfl
theorem under_line' : (Try.prog.underlying 131).map TypeDesc.isRow = some true := by kernel_rfl
theorem line_loadVar {w : World} {B : Nat} {u : Value} {k : Int} {e : TypeId} (hB : Blk w B #[u, .int .i64 k] e) : (loadVar 131 ⟨B, 0, none⟩).run Try.prog w = .ok (.agg #[u, .int .i64 k]) w := by
 have hB' : BlkR w B [u, .int .i64 k] e := hB
 have h := under_line'
 cases hu : Try.prog.underlying 131 with
 | none => rw [hu] at h; cases h
 | some d => rw [hu] at h; exact run_loadVar_mid w B 0 131 [u, .int .i64 k] d (rangeAt_blk hB') hu (by simpa using h) size_line
theorem line_set {w : World} {B : Nat} {u0 u1 : Value} {e : TypeId} (hB : Blk w B #[u0, u1] e) (u : Value) (k : Int) : Blk ((w.setCell ⟨B, 0, none⟩ u).setCell ⟨B, 1, none⟩ (.int .i64 k)) B #[u, .int .i64 k] e := (hB.set 0 u).set 1 (.int .i64 k)
theorem line_bel {w wx : World} {B : Nat} {u u' : Value} (hb : Below w.heap.size w wx) (hB : w.heap.size ≤ B) : Below w.heap.size w ((wx.setCell ⟨B, 0, none⟩ u).setCell ⟨B, 1, none⟩ u') := (hb.setCell (p := ⟨B, 0, none⟩) hB u).setCell (p := ⟨B, 1, none⟩) hB u'
def PaPost (I : In) (er p : Int) (O : List Int) (w : World) (e : Ending) (w' : World) : Prop := ∃ a8 n8 c8, e = .returned (.tuple #[.agg #[.slice a8 n8 c8, .int .i64 p], .int .i64 er]) ∧ SlQ I w.heap.size w' (.slice a8 n8 c8) O ∧ Below w.heap.size w w'
theorem keepA1 {P b i : Nat} {v : Value} {w9 w1 w2 : World} (hb : b ≠ P) (h : w1.cell? ⟨b, i, none⟩ = some v ∧ Asd P w9 w1) (ha : Asd P w1 w2) : w2.cell? ⟨b, i, none⟩ = some v ∧ Asd P w9 w2 := ⟨ha.cell hb h.1, h.2.trans ha⟩
theorem repS_snoc (y : List Int) (j : Nat) : repS y (j + 1) = repS y j ++ y := by
 unfold repS
 rw [List.replicate_succ', List.flatten_append]; simp
theorem getYs_small {X : List (List Int)} {rg : Int} (h : ∀ i, i < 27 → (rx X i).length ≤ 1048576) : (getYs X rg).length ≤ 1048576 := by
 unfold getYs
 split
 ·simp
 ·rename_i h1
  exact h _ (regJ_lt (by simpa using h1)).1
set_option maxRecDepth 100000 in
set_option maxHeartbeats 4000000 in
theorem pa_err (I : In) (hI : InOk I) (cm : C5) (m : Nat) (hm : m ≤ 999) (h0 : getEs I.X cm.b ≠ 0) :
  Calls Try.prog 196 #[.agg #[.slice I.a I.n I.c, .int .i64 (I.k : Int)], .agg (rgA I.vs), .agg #[.int .i64 cm.a, .int .i64 cm.b, .int .i64 cm.c, .int .i64 cm.d, .int .i64 cm.e], .int .i64 (m : Int)] I.w0 (PaPost I (getEs I.X cm.b) I.k I.t I.w0) := by
 have HI := Lib.hid hI
 have hlv := hI.rgs.lv
 have HR := Lib.hid hI.rgs
 have HSm := Lib.hid hI.small
 have HT := Lib.hid (show I.t.length = I.n from hI.len)
 have htop := hI.top
 have HTi := Lib.hid hI.ints
 have HN0 := Lib.hid hI.none
 have hcap := hI.cap; have hcap2 := hI.cap2
 obtain ⟨E, hE⟩ : ∃ E, getEs I.X cm.b = E := ⟨_, rfl⟩
 obtain ⟨y, hy⟩ : ∃ y, getYs I.X cm.b = y := ⟨_, rfl⟩
 have hrg := fun (w1 : World) (hb : Below I.w0.heap.size I.w0 w1) => ref_get I.vs I.X cm.b w1 (hI.rgs.below hb)
 rw [hE, hy] at hrg
 obtain ⟨N, hN⟩ : ∃ N, y.length = N := ⟨_, rfl⟩
 have hNs : N ≤ 1048576 := by rw [← hN, ← hy]; exact getYs_small hI.small
 have HG := Lib.hid hrg
 have HN := Lib.hid hN
 clear hI hrg hN
 obtain ⟨w, a, n, c, t, k, vs, X⟩ := I
 dsimp only at *
 rw [hE] at h0 ⊢
 have n0 : (E != 0) = true := by simpa using h0
 clear h0 hE hy
 have hbx := boxes4 w #[.slice a n c, .int .i64 (k : Int)] #[.int .i64 cm.a, .int .i64 cm.b, .int .i64 cm.c, .int .i64 cm.d, .int .i64 cm.e] #[.slice none 0 0, .int .i64 0] vs 131 133 80 131
 dsimp only at hbx
 go_enter Try.func196, Try.ntmps196
 go_upto_region 1 with fail
 generalize ((((w.alloc (.cells #[.slice a n c, .int .i64 (k : Int)] 131)).alloc (.cells (rgA vs) 133)).alloc (.cells #[.int .i64 cm.a, .int .i64 cm.b, .int .i64 cm.c, .int .i64 cm.d, .int .i64 cm.e] 80)).alloc (.cells #[.slice none 0 0, .int .i64 0] 131)) = w4 at *
 obtain ⟨hLn, hRg, hCm, hZ, hbw, hsz⟩ := hbx
 obtain ⟨l0, l1, -, -⟩ := hLn.two
 obtain ⟨d0, d1, d2, d3, d4⟩ := Blk.five hCm
 go_wp2_with (first | (refine regs_load rfl _ rfl (w.heap.size + 1) rfl vs _ hRg hlv ?_) | (go_at_call 239; go_loud (refine (HG.out w4 hbw).mono ?_; rintro e w5 ⟨v5, rfl, ⟨a5, n5, c5, rfl, hn5, hc5, hc6, hi5, hz5⟩, hb5⟩; obtain rfl : n5 = N := (by rw [← hn5]; exact HN.out); have hLn5 := hLn.below hb5 hLn.lt; have hCm5 := hCm.below hb5 hCm.lt; have hZ5 := hZ.below hb5 hZ.lt; have hb6 := hbw.trans (hb5.mono (by omega)); clear l0 l1 d0 d1 d2 d3 d4 hn5; obtain ⟨l0, l1, -, -⟩ := Blk.two hLn5; obtain ⟨d0, d1, d2, d3, d4⟩ := Blk.five hCm5; obtain ⟨z0, z1, zf0, zf1⟩ := Blk.two hZ5)))
 exact bodyPost_ret (results_ct Try.results196 rfl (line_loadVar (line_set hZ5 (.slice a n c) (k : Int)))) rfl ⟨a, n, c, rfl, .inl (.inl ⟨rfl, rfl⟩), line_bel hb6 (by omega)⟩
set_option maxRecDepth 100000 in
set_option maxHeartbeats 4000000 in
theorem pa_large (I : In) (hI : InOk I) (cm : C5) (m : Nat) (hm : m ≤ 999) (h0 : getEs I.X cm.b = 0) (hL : (200 : Int) < (I.n : Int) + (m : Int) * ((getYs I.X cm.b).length : Int)) :
  Calls Try.prog 196 #[.agg #[.slice I.a I.n I.c, .int .i64 (I.k : Int)], .agg (rgA I.vs), .agg #[.int .i64 cm.a, .int .i64 cm.b, .int .i64 cm.c, .int .i64 cm.d, .int .i64 cm.e], .int .i64 (m : Int)] I.w0 (PaPost I 2 I.k I.t I.w0) := by
 have HI := Lib.hid hI
 have hlv := hI.rgs.lv
 have HR := Lib.hid hI.rgs
 have HSm := Lib.hid hI.small
 have HT := Lib.hid (show I.t.length = I.n from hI.len)
 have htop := hI.top
 have HTi := Lib.hid hI.ints
 have HN0 := Lib.hid hI.none
 have hcap := hI.cap; have hcap2 := hI.cap2
 obtain ⟨E, hE⟩ : ∃ E, getEs I.X cm.b = E := ⟨_, rfl⟩
 obtain ⟨y, hy⟩ : ∃ y, getYs I.X cm.b = y := ⟨_, rfl⟩
 have hrg := fun (w1 : World) (hb : Below I.w0.heap.size I.w0 w1) => ref_get I.vs I.X cm.b w1 (hI.rgs.below hb)
 rw [hE, hy] at hrg
 obtain ⟨N, hN⟩ : ∃ N, y.length = N := ⟨_, rfl⟩
 have hNs : N ≤ 1048576 := by rw [← hN, ← hy]; exact getYs_small hI.small
 have HG := Lib.hid hrg
 have HN := Lib.hid hN
 clear hI hrg hN
 obtain ⟨w, a, n, c, t, k, vs, X⟩ := I
 dsimp only at *
 rw [hE] at h0
 subst h0
 rw [hy, HN.out] at hL
 have q1 : (m : Int) * (N : Int) ≤ 999 * 1048576 := Int.mul_le_mul (by omega) (by omega) (by omega) (by omega)
 have q0 : 0 ≤ (m : Int) * (N : Int) := Int.mul_nonneg (by omega) (by omega)
 obtain ⟨q, hq⟩ : ∃ q, (m : Int) * (N : Int) = q := ⟨_, rfl⟩
 rw [hq] at hL q0 q1
 have iw : IntKind.i64.wrap ((m : Int) * (N : Int)) = q := by rw [hq]; exact wrap_in (by omega) (by omega)
 clear hE hy hq
 have hbx := boxes4 w #[.slice a n c, .int .i64 (k : Int)] #[.int .i64 cm.a, .int .i64 cm.b, .int .i64 cm.c, .int .i64 cm.d, .int .i64 cm.e] #[.slice none 0 0, .int .i64 0] vs 131 133 80 131
 dsimp only at hbx
 go_enter Try.func196, Try.ntmps196
 go_upto_region 1 with fail
 generalize ((((w.alloc (.cells #[.slice a n c, .int .i64 (k : Int)] 131)).alloc (.cells (rgA vs) 133)).alloc (.cells #[.int .i64 cm.a, .int .i64 cm.b, .int .i64 cm.c, .int .i64 cm.d, .int .i64 cm.e] 80)).alloc (.cells #[.slice none 0 0, .int .i64 0] 131)) = w4 at *
 obtain ⟨hLn, hRg, hCm, hZ, hbw, hsz⟩ := hbx
 obtain ⟨l0, l1, -, -⟩ := hLn.two
 obtain ⟨d0, d1, d2, d3, d4⟩ := Blk.five hCm
 go_wp2_with (first | (refine regs_load rfl _ rfl (w.heap.size + 1) rfl vs _ hRg hlv ?_) | (go_at_call 239; go_loud (refine (HG.out w4 hbw).mono ?_; rintro e w5 ⟨v5, rfl, ⟨a5, n5, c5, rfl, hn5, hc5, hc6, hi5, hz5⟩, hb5⟩; obtain rfl : n5 = N := (by rw [← hn5]; exact HN.out); have hLn5 := hLn.below hb5 hLn.lt; have hCm5 := hCm.below hb5 hCm.lt; have hZ5 := hZ.below hb5 hZ.lt; have hb6 := hbw.trans (hb5.mono (by omega)); clear l0 l1 d0 d1 d2 d3 d4 hn5; obtain ⟨l0, l1, -, -⟩ := Blk.two hLn5; obtain ⟨d0, d1, d2, d3, d4⟩ := Blk.five hCm5; obtain ⟨z0, z1, zf0, zf1⟩ := Blk.two hZ5)))
 exact bodyPost_ret (results_ct Try.results196 rfl (line_loadVar (line_set hZ5 (.slice a n c) (k : Int)))) rfl ⟨a, n, c, rfl, .inl (.inl ⟨rfl, rfl⟩), line_bel hb6 (by omega)⟩
set_option maxRecDepth 100000 in
set_option maxHeartbeats 4000000 in
theorem pa_ok (I : In) (hI : InOk I) (cm : C5) (m : Nat) (hm : m ≤ 999) (h0 : getEs I.X cm.b = 0) (hL : (I.n : Int) + (m : Int) * ((getYs I.X cm.b).length : Int) ≤ 200) (i : Nat) (hi : (cm.d = 112 ∧ 0 < I.n ∧ i = I.k + 1) ∨ (cm.d = 112 ∧ I.n = 0 ∧ i = I.k) ∨ (cm.d ≠ 112 ∧ i = I.k)) (hin : i ≤ I.n) :
  Calls Try.prog 196 #[.agg #[.slice I.a I.n I.c, .int .i64 (I.k : Int)], .agg (rgA I.vs), .agg #[.int .i64 cm.a, .int .i64 cm.b, .int .i64 cm.c, .int .i64 cm.d, .int .i64 cm.e], .int .i64 (m : Int)] I.w0 (PaPost I 0 ((i : Int) + (m : Int) * ((getYs I.X cm.b).length : Int) - 1) (I.t.take i ++ repS (getYs I.X cm.b) m ++ I.t.drop i) I.w0) := by
 have HI := Lib.hid hI
 have hlv := hI.rgs.lv
 have HR := Lib.hid hI.rgs
 have HSm := Lib.hid hI.small
 have HT := Lib.hid (show I.t.length = I.n from hI.len)
 have htop := hI.top
 have HTi := Lib.hid hI.ints
 have HN0 := Lib.hid hI.none
 have hcap := hI.cap; have hcap2 := hI.cap2
 obtain ⟨E, hE⟩ : ∃ E, getEs I.X cm.b = E := ⟨_, rfl⟩
 obtain ⟨y, hy⟩ : ∃ y, getYs I.X cm.b = y := ⟨_, rfl⟩
 have hrg := fun (w1 : World) (hb : Below I.w0.heap.size I.w0 w1) => ref_get I.vs I.X cm.b w1 (hI.rgs.below hb)
 rw [hE, hy] at hrg
 obtain ⟨N, hN⟩ : ∃ N, y.length = N := ⟨_, rfl⟩
 have hNs : N ≤ 1048576 := by rw [← hN, ← hy]; exact getYs_small hI.small
 have HG := Lib.hid hrg
 have HN := Lib.hid hN
 clear hI hrg hN
 obtain ⟨w, a, n, c, t, k, vs, X⟩ := I
 dsimp only at *
 rw [hE] at h0
 subst h0
 rw [hy, HN.out] at hL ⊢
 have hpos : 0 < N := by rw [← HN.out, ← hy]; exact List.length_pos_iff.2 (getEs_pos hE)
 obtain ⟨q, hq⟩ : ∃ q : Nat, (m : Int) * (N : Int) = (q : Int) := ⟨m * N, by push_cast; rfl⟩
 rw [hq] at hL ⊢
 have iw : IntKind.i64.wrap ((m : Int) * (N : Int)) = (q : Int) := by rw [hq]; exact wrap_in (by omega) (by omega)
 have HQ := Lib.hid (show N * m = q by have := hq; rw [Nat.mul_comm]; exact_mod_cast this)
 have HII := Lib.hid hi
 have HTK := Lib.hid (show (t.take i).length = i by rw [List.length_take, HT.out]; omega)
 have HTD := Lib.hid (show (t.drop i).length = n - i by rw [List.length_drop, HT.out])
 have hmN : m * 1 ≤ m * N := Nat.mul_le_mul_left m hpos
 have hm2 : m ≤ 200 := by have := HQ.out; rw [Nat.mul_comm] at this; omega
 have hN2 : m = 0 ∨ N ≤ 200 := by
  rcases Nat.eq_zero_or_pos m with h | h
  ·exact .inl h
  ·right
   have : N * 1 ≤ N * m := Nat.mul_le_mul_left N h
   have := HQ.out; omega
 clear hE hy hq hi hmN
 have hbx := boxes4 w #[.slice a n c, .int .i64 (k : Int)] #[.int .i64 cm.a, .int .i64 cm.b, .int .i64 cm.c, .int .i64 cm.d, .int .i64 cm.e] #[.slice none 0 0, .int .i64 0] vs 131 133 80 131
 dsimp only at hbx
 go_enter Try.func196, Try.ntmps196
 go_upto_region 1 with fail
 generalize ((((w.alloc (.cells #[.slice a n c, .int .i64 (k : Int)] 131)).alloc (.cells (rgA vs) 133)).alloc (.cells #[.int .i64 cm.a, .int .i64 cm.b, .int .i64 cm.c, .int .i64 cm.d, .int .i64 cm.e] 80)).alloc (.cells #[.slice none 0 0, .int .i64 0] 131)) = w4 at *
 obtain ⟨hLn, hRg, hCm, hZ, hbw, hsz⟩ := hbx
 obtain ⟨l0, l1, -, -⟩ := hLn.two
 obtain ⟨d0, d1, d2, d3, d4⟩ := Blk.five hCm
 go_upto_region 7 with (first | (refine regs_load rfl _ rfl (w.heap.size + 1) rfl vs _ hRg hlv ?_) | (go_at_call 239; go_loud (refine (HG.out w4 hbw).mono ?_; rintro e w5 ⟨v5, rfl, ⟨a5, n5, c5, rfl, hn5, hc5, hc6, hi5, hz5⟩, hb5⟩; obtain rfl : n5 = N := (by rw [← hn5]; exact HN.out); have hLn5 := hLn.below hb5 hLn.lt; have hCm5 := hCm.below hb5 hCm.lt; have hZ5 := hZ.below hb5 hZ.lt; have hb6 := hbw.trans (hb5.mono (by omega)); clear l0 l1 d0 d1 d2 d3 d4 hn5; obtain ⟨l0, l1, -, -⟩ := Blk.two hLn5; obtain ⟨d0, d1, d2, d3, d4⟩ := Blk.five hCm5; obtain ⟨z0, z1, zf0, zf1⟩ := Blk.two hZ5)))
 go_cut [45] (fun v wx => ∃ b : Bool, v = .bool b ∧ i = (if b then k + 1 else k) ∧ w5 = wx)
 case first =>
  rcases HII.out with ⟨h1, h2, h3⟩ | ⟨h1, h2, h3⟩ | ⟨h1, h3⟩
  ·have x1 : (cm.d == 112) = true := by simpa using h1
   have x2 : (0 : Int) < (n : Int) := by omega
   clear h1
   go_wp2
   all_goals
    go_meet
    exact ⟨true, rfl, h3, rfl⟩
  ·have x1 : (cm.d == 112) = true := by simpa using h1
   subst h2
   clear h1
   go_wp2
   go_meet
   exact ⟨false, rfl, h3, rfl⟩
  ·have x1 : (cm.d == 112) = false := by simpa using h1
   clear h1
   go_wp2
   go_meet
   exact ⟨false, rfl, h3, rfl⟩
 obtain ⟨b, rfl, hib, rfl⟩ := hcut
 go_upto_if 45 with fail
 go_cut [12] (fun v wx => v = .int .i64 (i : Int) ∧ w5 = wx)
 case first =>
  cases b
  all_goals
   simp only [if_true, if_false, Bool.false_eq_true] at hib
   subst hib
   go_wp2
   go_meet
   exact ⟨by first | rfl | (push_cast; rfl), rfl⟩
 obtain ⟨rfl, rfl⟩ := hcut
 clear hib HII
 have hw5 : w.heap.size + 4 ≤ w5.heap.size := by have := hb5.size; omega
 go_wp2
 go_loopw [13, 49] (fun v j wr => ∃ q : Nat, j = .int .i64 (q : Int) ∧ q ≤ m ∧ Own 3 w5.heap.size wr v (repS y q) ∧ Below w5.heap.size w5 wr) (fun _ j _ => m - (intOf j).toNat)
 case atStart => exact ⟨0, rfl, Nat.zero_le _, Own.nil _ _ _, Below.refl _ _⟩
 case round =>
  obtain ⟨j, rfl, hj, hown, hbr⟩ := hrel
  obtain ⟨av, nv, cv, rfl⟩ := hown.form
  by_cases hlt : j < m
  ·have hI := hi5.below hbr
   obtain ⟨ad, rfl⟩ : ∃ ad, a5 = some ad := by
    cases a5 with
    | none => exact absurd (hz5 rfl) (by omega)
    | some ad => exact ⟨ad, rfl⟩
   have hlen : (repS y j).length + n5 ≤ 17592186044416 := by
    rw [repS_length, HN.out]
    have : n5 * j ≤ n5 * m := Nat.mul_le_mul_left _ (by omega)
    have := HQ.out; omega
   go_wp2_with (at_builtin; refine appN rfl _ _ rfl w5.heap.size _ _ y ad n5 c5 rfl rfl hown hI HN.out hlen hbr.size ?_; intro v1 w1 hown1 hgrow1 _; obtain ⟨a1, n1, m1, rfl⟩ := hown1.form)
   go_roundw
   case rel => exact ⟨j + 1, by go_num, by omega, by rw [repS_snoc]; exact hown1, hbr.grown hgrow1 hbr.size (fun k hk => by have := hown.row k hk; omega)⟩
   case measure => simp [intOf]; omega
  ·obtain rfl : j = m := by omega
   have hlx : nv = q := by
    have := hown.get.1
    rw [repS_length, HN.out, HQ.out] at this; omega
   subst hlx
   have hLnr := hLn5.below hbr hLn5.lt
   have hZr := hZ5.below hbr hZ5.lt
   have hcr1 := cut_run_to a n c i (by omega)
   have hcr2 := cut_run_end a n c i hin
   have hTr := (HTi.out.below hb6).below hbr
   have hcat := (catIn3 wr 22 c cv (c - i) (hTr.take i) hown.get.2.1 (hTr.cutEnd (c := c) i (by rw [HT.out]; exact hcap) (by rw [HT.out]; exact hin)) HTK.out hown.get.1 HTD.out (by omega) (by omega) (by omega) (fun hz => by have := HN0.out hz; omega) hown.sl.get.2.2.2.2 (fun hz => by have := HN0.out (cutA_none hz); omega)).drew
   obtain ⟨aa, haa⟩ : ∃ aa, cutA a c i = aa := ⟨_, rfl⟩
   rw [haa] at hcr2 hcat
   obtain ⟨e0, e1, -, -⟩ := Blk.two hLnr
   have HCAT := Lib.hid hcat
   have HOW := Lib.hid hown
   have hbrr := hb6.trans (hbr.mono (by omega))
   have hZd := (hZr.alloc (.cells #[.slice a i c, .slice av nv cv, .slice aa (n - i) (c - i)] 22)).drew
   have hwr : w.heap.size + 4 ≤ wr.heap.size := Nat.le_trans hw5 hbr.size
   clear hcat hown haa hTr l0 l1 d0 d1 d2 d3 d4 z0 z1 zf0 zf1
   go_upto_region 14 with fail
   have hn0 : w.heap.size ≠ w.heap.size + 3 := by omega
   have hzl : w.heap.size + 3 < (wr.alloc (.cells #[.slice a i c, .slice av nv cv, .slice aa (n - i) (c - i)] 22)).drew.heap.size := by show _ < (wr.alloc _).heap.size; rw [World.size_alloc]; omega
   have hzb : Below w.heap.size w (wr.alloc (.cells #[.slice a i c, .slice av nv cv, .slice aa (n - i) (c - i)] 22)).drew := (hbrr.alloc hbrr.size _).drew
   go_region_held3 (fun w' => w'.cell? ⟨w.heap.size, 0, none⟩ = some (.slice a n c) ∧ Asd (w.heap.size + 3) wr w') (first | exact ⟨e0, (Asd.refl _ _).drew⟩ | (with_reducible assumption) | exact keepA1 hn0 ‹_› (Asd.of ‹_›) | exact keepA1 hn0 ‹_› (Asd.of (below1 _ _)) | exact keepA1 hn0 ‹_› (Asd.set _) | exact keepA1 hn0 ‹_› ((Asd.set _).trans (Asd.set _)))
    (first | (go_at_call 46; go_loud (refine (slices_concat _ 3 _ _ _ _ _ HCAT.out (by omega)).mono ?_; rintro e w8 ⟨v8, rfl, o8, hb8⟩; obtain ⟨a8, n8, c8, rfl⟩ := o8.form; have hZ8 := hZd.below hb8 hzl; have hB8 := hzb.trans (hb8.mono (Nat.le_of_lt (Nat.lt_of_le_of_lt (Nat.le_add_right _ 3) hzl))); obtain ⟨z0, z1, zf0, zf1⟩ := Blk.two hZ8)))
   all_goals
    rw [joinX3] at o8
    have e2 : IntKind.i64.wrap (IntKind.i64.wrap ((i : Int) + (nv : Int)) - 1) = (i : Int) + (nv : Int) - 1 := wrap2 (by omega) (by omega) (by omega) (by omega)
    go_wp2
    generalize IntKind.i64.wrap (IntKind.i64.wrap ((i : Int) + (nv : Int)) - 1) = pv at e2 ⊢
    subst e2
    exact bodyPost_ret (results_ct Try.results196 rfl (line_loadVar (line_set hZ8 (.slice a8 n8 c8) _))) rfl ⟨a8, n8, c8, rfl, .inr (((o8.setCell (a := ⟨w.heap.size + 3, 0, none⟩) hzl _).setCell (a := ⟨w.heap.size + 3, 1, none⟩) hzl _).mono (Nat.le_of_lt (Nat.lt_of_le_of_lt (Nat.le_add_right _ 3) hzl))), line_bel hB8 (by omega)⟩
theorem results_ctt {fn : Func} {s t u : Tmp} {T : TypeId} (h : fn.results = #[.cell s T, .tmp t, .tmp u]) {tmps : Array Value} {P : Program} {w : World} {ad : Addr} {v : Value} (hp : tmps.getD s undef = .pointer (some ad)) (hl : (loadVar T ad).run P w = .ok v w) :
  (results fn tmps).run P w = .ok (.tuple #[v, tmps.getD t undef, tmps.getD u undef]) w := by
 have hp' : tmps[s]?.getD undef = .pointer (some ad) := by simpa using hp
 simp [results, h, hp', asAddr, hl]
theorem SlQ.other {I : In} {base : Nat} {w : World} {v : Value} {xs : List Int} {B i : Nat} (h : SlQ I base w v xs) (hB : B < base) (u : Value) : SlQ I base (w.setCell ⟨B, i, none⟩ u) v xs := h.imp id fun h => h.setCell (a := ⟨B, i, none⟩) hB u
def SimPost (I : In) (er md p : Int) (O : List Int) (w : World) (e : Ending) (w' : World) : Prop := ∃ a8 n8 c8, e = .returned (.tuple #[.agg #[.slice a8 n8 c8, .int .i64 p], .int .i64 md, .int .i64 er]) ∧ SlQ I w.heap.size w' (.slice a8 n8 c8) O ∧ Below w.heap.size w w'
theorem Own.setAt {e : TypeId} {base : Nat} {w : World} {g n c : Nat} {xs : List Int} (h : Own e base w (.slice (some ⟨g, 0, none⟩) n c) xs) (i : Nat) (x : Int) : Own e base (w.setCell ⟨g, i, none⟩ (.int .i64 x)) (.slice (some ⟨g, 0, none⟩) n c) (xs.set i x) := by
 refine ⟨by simp, ?_⟩
 rcases h.2 with ⟨h1, _⟩ | ⟨g', cap, cur, h1, h2, h3, h4, h5, h6, h7⟩
 ·simp at h1
 ·simp only [Value.slice.injEq, Option.some.injEq, Addr.mk.injEq] at h1
  obtain ⟨⟨rfl, _, _⟩, h8, rfl⟩ := h1
  refine .inr ⟨g, c, cur.setIfInBounds i (.int .i64 x), by rw [List.length_set, ← h8], h2, Blk.set (B := g) (e := e) h3 i _, by rw [List.length_set]; exact h4, h5, by simpa using h6, ?_⟩
  rw [Array.toList_setIfInBounds, List.map_set, ← h7, List.take_set, List.length_set]
theorem own_set2 {base B : Nat} {w : World} {v : Value} {xs : List Int} {u u' : Value} (hB : B < base) (h : Own 3 base w v xs) : Own 3 B ((w.setCell ⟨B, 0, none⟩ u).setCell ⟨B, 1, none⟩ u') v xs := ((h.setCell (a := ⟨B, 0, none⟩) hB u).setCell (a := ⟨B, 1, none⟩) hB u').mono (Nat.le_of_lt hB)
theorem keepL {b : Nat} {v0 v1 : Value} {w5 w1 w2 : World} (n0 : b < w5.heap.size) (h : w1.cell? ⟨b, 0, none⟩ = some v0 ∧ w1.cell? ⟨b, 1, none⟩ = some v1 ∧ Below w5.heap.size w5 w1) (hb : Below w5.heap.size w1 w2) : w2.cell? ⟨b, 0, none⟩ = some v0 ∧ w2.cell? ⟨b, 1, none⟩ = some v1 ∧ Below w5.heap.size w5 w2 :=
 ⟨by rw [hb.cell n0]; exact h.1, by rw [hb.cell n0]; exact h.2.1, h.2.2.trans hb⟩
theorem keepLA {b : Nat} {v0 v1 : Value} {w5 w1 : World} (n0 : b < w5.heap.size) (h : w1.cell? ⟨b, 0, none⟩ = some v0 ∧ w1.cell? ⟨b, 1, none⟩ = some v1 ∧ Below w5.heap.size w5 w1) (o : Obj) : (w1.alloc o).cell? ⟨b, 0, none⟩ = some v0 ∧ (w1.alloc o).cell? ⟨b, 1, none⟩ = some v1 ∧ Below w5.heap.size w5 (w1.alloc o) := keepL n0 h ((below1 w1 o).mono h.2.2.size)
theorem keepLS {b : Nat} {v0 v1 : Value} {w5 w1 : World} (n0 : b < w5.heap.size) (h : w1.cell? ⟨b, 0, none⟩ = some v0 ∧ w1.cell? ⟨b, 1, none⟩ = some v1 ∧ Below w5.heap.size w5 w1) {B i : Nat} (hB : w5.heap.size ≤ B) (u : Value) : (w1.setCell ⟨B, i, none⟩ u).cell? ⟨b, 0, none⟩ = some v0 ∧ (w1.setCell ⟨B, i, none⟩ u).cell? ⟨b, 1, none⟩ = some v1 ∧ Below w5.heap.size w5 (w1.setCell ⟨B, i, none⟩ u) := keepL n0 h ((Below.refl _ _).setCell (p := ⟨B, i, none⟩) hB u)
def mapTo (f : Int → Int) (t : List Int) (k j : Nat) : List Int := t.take k ++ ((t.take (k + j)).drop k).map f ++ t.drop (k + j)
theorem mapTo_len {f : Int → Int} {t : List Int} {k j : Nat} (h : k + j ≤ t.length) : (mapTo f t k j).length = t.length := by
 unfold mapTo
 simp only [List.length_append, List.length_map, List.length_drop, List.length_take]; omega
theorem mapTo_ix {f : Int → Int} {t : List Int} {k j : Nat} (h : k + j ≤ t.length) {i : Nat} (hi : i < t.length) : ix (mapTo f t k j) i = if k ≤ i ∧ i < k + j then f (ix t i) else ix t i := by
 have e : (mapTo f t k j)[i]? = some (if k ≤ i ∧ i < k + j then f (ix t i) else ix t i) := by
  have ht : t[i]? = some (ix t i) := by simp [ix, List.getD_eq_getElem?_getD, hi]
  unfold mapTo
  rw [List.append_assoc]
  rcases Nat.lt_or_ge i k with h1 | h1
  ·rw [List.getElem?_append_left (by rw [List.length_take]; omega), List.getElem?_take, if_pos h1, if_neg (by omega), ht]
  ·rw [List.getElem?_append_right (by rw [List.length_take]; omega), List.length_take, Nat.min_eq_left (by omega)]
   rcases Nat.lt_or_ge i (k + j) with h2 | h2
   ·rw [List.getElem?_append_left (by rw [List.length_map, List.length_drop, List.length_take]; omega), List.getElem?_map, List.getElem?_drop, List.getElem?_take, if_pos (by omega), if_pos ⟨h1, h2⟩, show k + (i - k) = i by omega, ht]; rfl
   ·rw [List.getElem?_append_right (by rw [List.length_map, List.length_drop, List.length_take]; omega), List.length_map, List.length_drop, List.length_take, Nat.min_eq_left h, List.getElem?_drop, if_neg (by omega), show k + j + (i - k - (k + j - k)) = i by omega, ht]
 simp [ix, List.getD_eq_getElem?_getD] at e ⊢
 rw [e]; rfl
theorem mapTo_at {f : Int → Int} {t : List Int} {k j : Nat} (h : k + j < t.length) : ix (mapTo f t k j) (k + j) = ix t (k + j) := by
 rw [mapTo_ix (by omega) h, if_neg (by omega)]
theorem mapTo_set {f : Int → Int} {t : List Int} {k j : Nat} (h : k + j < t.length) : (mapTo f t k j).set (k + j) (f (ix t (k + j))) = mapTo f t k (j + 1) := by
 refine ix_ext (by rw [List.length_set, mapTo_len (by omega), mapTo_len (by omega)]) fun i hi => ?_
 rw [List.length_set, mapTo_len (by omega)] at hi
 by_cases he : i = k + j
 ·subst he
  rw [mapTo_ix (by omega) hi, if_pos (by omega)]
  simp [ix, List.getD_eq_getElem?_getD, mapTo_len (f := f) (show k + j ≤ t.length by omega), h]
 ·rw [mapTo_ix (by omega) hi]
  have e : ix ((mapTo f t k j).set (k + j) (f (ix t (k + j)))) i = ix (mapTo f t k j) i := by
   simp [ix, List.getD_eq_getElem?_getD, List.getElem?_set, Ne.symm he]
  rw [e, mapTo_ix (by omega) hi]
  by_cases h1 : k ≤ i ∧ i < k + j
  ·rw [if_pos h1, if_pos (by omega)]
  ·rw [if_neg h1, if_neg (by omega)]
theorem mapTo_zero {f : Int → Int} {t : List Int} {k : Nat} : mapTo f t k 0 = t := by
 unfold mapTo
 simp
theorem Own.at0 {e : TypeId} {base : Nat} {w : World} {g n c : Nat} {xs : List Int} (h : Own e base w (.slice (some ⟨g, 0, none⟩) n c) xs) {i : Nat} (hi : i < n) : w.cell? ⟨g, i, none⟩ = some (.int .i64 (ix xs i)) ∧ w.frozen? ⟨g, i, none⟩ = false := by
 have hl := h.get.1
 constructor
 ·rcases h.get.2.1 with hx | ⟨b, o, ha, hc⟩
  ·subst hx; simp at hl; omega
  ·simp only [Option.some.injEq, Addr.mk.injEq] at ha
   obtain ⟨rfl, rfl, -⟩ := ha
   have := hc i (by omega)
   rwa [Nat.zero_add] at this
 ·rcases h.2 with ⟨h1, _⟩ | ⟨g', cap, cur, h1, h2, h3, _⟩
  ·simp at h1
  ·simp only [Value.slice.injEq, Option.some.injEq, Addr.mk.injEq] at h1
   obtain ⟨⟨rfl, _, _⟩, _, _⟩ := h1
   simp [World.frozen?, h3]
theorem ref_go_first (I : In) (hI : InOk I) (w1 : World) (hb : Below I.w0.heap.size I.w0 w1) :
  Calls Try.prog 146 #[.slice I.a I.n I.c, .int .i64 (I.k : Int), .agg #[.int .i64 94, .int .i64 0, .int .i64 0], .bool false] w1 fun e w' => ∃ b, e = .returned (.tuple #[.int .i64 (firstF I.t), b, .bool false]) ∧ Below w1.heap.size w1 w' := by
 have hl := hI.len; have ht := hI.top; have hk := hI.k1
 have hE : moveE I.t I.k 94 0 = 0 := by
  unfold moveE
  rw [if_neg (by omega), if_neg (by omega)]; rfl
 have h := ref_go I.a I.n I.c I.t I.k 94 0 0 false w1 (hI.ints.below hb) hI.len hE
 rw [show moS I.t (I.k : Int).toNat 94 (max 1 0) 0 false = some (firstF I.t, false) from rfl] at h
 refine h.mono ?_
 rintro e w' ⟨x, b, rfl, hy, hbw⟩
 have := hy _ rfl
 simp only [Prod.mk.injEq] at this
 obtain ⟨rfl, rfl⟩ := this
 exact ⟨_, rfl, hbw⟩
set_option maxRecDepth 100000 in
set_option maxHeartbeats 4000000 in
theorem sim_i (I : In) (hI : InOk I) (ca cb cc ce : Int) (h0 : 0 ≤ ca) (h1 : ca ≤ 999)  :
  Calls Try.prog 147 #[.agg #[.slice I.a I.n I.c, .int .i64 (I.k : Int)], .agg (rgA I.vs), .agg #[.int .i64 ca, .int .i64 cb, .int .i64 cc, .int .i64 105, .int .i64 ce]] I.w0 (SimPost I (0) (1) (I.k) (I.t) I.w0) := by
 have HI := Lib.hid hI
 have hlv := hI.rgs.lv
 have htop := hI.top
 have hk1 := hI.k1
 have HT := Lib.hid (show I.t.length = I.n from hI.len)
 have HTi := Lib.hid hI.ints
 have HN0 := Lib.hid hI.none
 have hcap := hI.cap; have hcap2 := hI.cap2
 obtain ⟨M, hM, hM1, hM2⟩ : ∃ M : Nat, max 1 ca = (M : Int) ∧ 1 ≤ M ∧ M ≤ 999 := ⟨(max 1 ca).toNat, by omega, by omega, by omega⟩
 have HM := Lib.hid hM
 clear hI
 obtain ⟨w, a, n, c, t, k, vs, X⟩ := I
 dsimp only at *
 have hbx := boxes4 w #[.slice a n c, .int .i64 (k : Int)] #[.int .i64 ca, .int .i64 cb, .int .i64 cc, .int .i64 105, .int .i64 ce] #[.slice none 0 0, .int .i64 0] vs 131 133 80 131
 dsimp only at hbx
 go_enter Try.func147, Try.ntmps147
 go_upto_region 1 with fail
 generalize ((((w.alloc (.cells #[.slice a n c, .int .i64 (k : Int)] 131)).alloc (.cells (rgA vs) 133)).alloc (.cells #[.int .i64 ca, .int .i64 cb, .int .i64 cc, .int .i64 105, .int .i64 ce] 80)).alloc (.cells #[.slice none 0 0, .int .i64 0] 131)) = w4 at *
 obtain ⟨hLn, hRg, hCm, hZ, hbw, hsz⟩ := hbx
 obtain ⟨l0, l1, -, -⟩ := hLn.two
 obtain ⟨d0, d1, d2, d3, d4⟩ := Blk.five hCm
 have HMP := Lib.hid hM
 clear hM
 go_cut [9, 10] (fun u v wx => u = .int .i64 (M : Int) ∧ v = .int .i64 (n : Int) ∧ w4.drew = wx)
 case first =>
  rcases (show ca = 0 ∨ ca = 1 ∨ 2 ≤ ca by omega) with rfl | rfl | h3
  ·obtain rfl : M = 1 := by have := HM.out; omega
   go_region_held3 (fun w' => w'.cell? ⟨w.heap.size, 0, none⟩ = some (.slice a n c) ∧ w'.cell? ⟨w.heap.size + 2, 0, none⟩ = some (.int .i64 0)) (first | exact ⟨l0, d0⟩ | assumption) (fail)
   all_goals
    go_wp2
    go_meet
    exact ⟨rfl, rfl, rfl⟩
  ·obtain rfl : M = 1 := by have := HM.out; omega
   go_region_held3 (fun w' => w'.cell? ⟨w.heap.size, 0, none⟩ = some (.slice a n c) ∧ w'.cell? ⟨w.heap.size + 2, 0, none⟩ = some (.int .i64 1)) (first | exact ⟨l0, d0⟩ | assumption) (fail)
   all_goals
    go_wp2
    go_meet
    exact ⟨rfl, rfl, rfl⟩
  ·obtain rfl : ca = (M : Int) := by have := HM.out; omega
   go_region_held3 (fun w' => w'.cell? ⟨w.heap.size, 0, none⟩ = some (.slice a n c) ∧ w'.cell? ⟨w.heap.size + 2, 0, none⟩ = some (.int .i64 (M : Int))) (first | exact ⟨l0, d0⟩ | assumption) (fail)
   all_goals
    go_wp2
    go_meet
    exact ⟨rfl, rfl, rfl⟩
 obtain ⟨rfl, rfl, rfl⟩ := hcut
 replace hLn : Blk w4.drew _ _ _ := hLn
 replace hRg : BlkR w4.drew _ _ _ := hRg
 replace hCm : Blk w4.drew _ _ _ := hCm
 replace hZ : Blk w4.drew _ _ _ := hZ
 replace hbw : Below w.heap.size w w4.drew := hbw.drew
 replace hsz : w4.drew.heap.size = w.heap.size + 4 := hsz
 clear l0 l1 d0 d1 d2 d3 d4
 generalize w4.drew = w5 at *
 clear w4
 obtain ⟨l0, l1, -, -⟩ := Blk.two hLn
 obtain ⟨d0, d1, d2, d3, d4⟩ := Blk.five hCm
 obtain ⟨z0, z1, zf0, zf1⟩ := Blk.two hZ
 go_wp2
 exact bodyPost_ret (results_ctt Try.results147 rfl (line_loadVar (line_set hZ (.slice a _ c) ((k : Int))))) rfl ⟨a, _, c, rfl, .inl (.inl ⟨rfl, rfl⟩), line_bel hbw (by omega)⟩
set_option maxRecDepth 100000 in
set_option maxHeartbeats 4000000 in
theorem sim_R (I : In) (hI : InOk I) (ca cb cc ce : Int) (h0 : 0 ≤ ca) (h1 : ca ≤ 999)  :
  Calls Try.prog 147 #[.agg #[.slice I.a I.n I.c, .int .i64 (I.k : Int)], .agg (rgA I.vs), .agg #[.int .i64 ca, .int .i64 cb, .int .i64 cc, .int .i64 82, .int .i64 ce]] I.w0 (SimPost I (0) (2) (I.k) (I.t) I.w0) := by
 have HI := Lib.hid hI
 have hlv := hI.rgs.lv
 have htop := hI.top
 have hk1 := hI.k1
 have HT := Lib.hid (show I.t.length = I.n from hI.len)
 have HTi := Lib.hid hI.ints
 have HN0 := Lib.hid hI.none
 have hcap := hI.cap; have hcap2 := hI.cap2
 obtain ⟨M, hM, hM1, hM2⟩ : ∃ M : Nat, max 1 ca = (M : Int) ∧ 1 ≤ M ∧ M ≤ 999 := ⟨(max 1 ca).toNat, by omega, by omega, by omega⟩
 have HM := Lib.hid hM
 clear hI
 obtain ⟨w, a, n, c, t, k, vs, X⟩ := I
 dsimp only at *
 have hbx := boxes4 w #[.slice a n c, .int .i64 (k : Int)] #[.int .i64 ca, .int .i64 cb, .int .i64 cc, .int .i64 82, .int .i64 ce] #[.slice none 0 0, .int .i64 0] vs 131 133 80 131
 dsimp only at hbx
 go_enter Try.func147, Try.ntmps147
 go_upto_region 1 with fail
 generalize ((((w.alloc (.cells #[.slice a n c, .int .i64 (k : Int)] 131)).alloc (.cells (rgA vs) 133)).alloc (.cells #[.int .i64 ca, .int .i64 cb, .int .i64 cc, .int .i64 82, .int .i64 ce] 80)).alloc (.cells #[.slice none 0 0, .int .i64 0] 131)) = w4 at *
 obtain ⟨hLn, hRg, hCm, hZ, hbw, hsz⟩ := hbx
 obtain ⟨l0, l1, -, -⟩ := hLn.two
 obtain ⟨d0, d1, d2, d3, d4⟩ := Blk.five hCm
 have HMP := Lib.hid hM
 clear hM
 go_cut [9, 10] (fun u v wx => u = .int .i64 (M : Int) ∧ v = .int .i64 (n : Int) ∧ w4.drew = wx)
 case first =>
  rcases (show ca = 0 ∨ ca = 1 ∨ 2 ≤ ca by omega) with rfl | rfl | h3
  ·obtain rfl : M = 1 := by have := HM.out; omega
   go_region_held3 (fun w' => w'.cell? ⟨w.heap.size, 0, none⟩ = some (.slice a n c) ∧ w'.cell? ⟨w.heap.size + 2, 0, none⟩ = some (.int .i64 0)) (first | exact ⟨l0, d0⟩ | assumption) (fail)
   all_goals
    go_wp2
    go_meet
    exact ⟨rfl, rfl, rfl⟩
  ·obtain rfl : M = 1 := by have := HM.out; omega
   go_region_held3 (fun w' => w'.cell? ⟨w.heap.size, 0, none⟩ = some (.slice a n c) ∧ w'.cell? ⟨w.heap.size + 2, 0, none⟩ = some (.int .i64 1)) (first | exact ⟨l0, d0⟩ | assumption) (fail)
   all_goals
    go_wp2
    go_meet
    exact ⟨rfl, rfl, rfl⟩
  ·obtain rfl : ca = (M : Int) := by have := HM.out; omega
   go_region_held3 (fun w' => w'.cell? ⟨w.heap.size, 0, none⟩ = some (.slice a n c) ∧ w'.cell? ⟨w.heap.size + 2, 0, none⟩ = some (.int .i64 (M : Int))) (first | exact ⟨l0, d0⟩ | assumption) (fail)
   all_goals
    go_wp2
    go_meet
    exact ⟨rfl, rfl, rfl⟩
 obtain ⟨rfl, rfl, rfl⟩ := hcut
 replace hLn : Blk w4.drew _ _ _ := hLn
 replace hRg : BlkR w4.drew _ _ _ := hRg
 replace hCm : Blk w4.drew _ _ _ := hCm
 replace hZ : Blk w4.drew _ _ _ := hZ
 replace hbw : Below w.heap.size w w4.drew := hbw.drew
 replace hsz : w4.drew.heap.size = w.heap.size + 4 := hsz
 clear l0 l1 d0 d1 d2 d3 d4
 generalize w4.drew = w5 at *
 clear w4
 obtain ⟨l0, l1, -, -⟩ := Blk.two hLn
 obtain ⟨d0, d1, d2, d3, d4⟩ := Blk.five hCm
 obtain ⟨z0, z1, zf0, zf1⟩ := Blk.two hZ
 go_wp2
 exact bodyPost_ret (results_ctt Try.results147 rfl (line_loadVar (line_set hZ (.slice a _ c) ((k : Int))))) rfl ⟨a, _, c, rfl, .inl (.inl ⟨rfl, rfl⟩), line_bel hbw (by omega)⟩
set_option maxRecDepth 100000 in
set_option maxHeartbeats 4000000 in
theorem sim_A (I : In) (hI : InOk I) (ca cb cc ce : Int) (h0 : 0 ≤ ca) (h1 : ca ≤ 999)  :
  Calls Try.prog 147 #[.agg #[.slice I.a I.n I.c, .int .i64 (I.k : Int)], .agg (rgA I.vs), .agg #[.int .i64 ca, .int .i64 cb, .int .i64 cc, .int .i64 65, .int .i64 ce]] I.w0 (SimPost I (0) (1) ((I.n : Int)) (I.t) I.w0) := by
 have HI := Lib.hid hI
 have hlv := hI.rgs.lv
 have htop := hI.top
 have hk1 := hI.k1
 have HT := Lib.hid (show I.t.length = I.n from hI.len)
 have HTi := Lib.hid hI.ints
 have HN0 := Lib.hid hI.none
 have hcap := hI.cap; have hcap2 := hI.cap2
 obtain ⟨M, hM, hM1, hM2⟩ : ∃ M : Nat, max 1 ca = (M : Int) ∧ 1 ≤ M ∧ M ≤ 999 := ⟨(max 1 ca).toNat, by omega, by omega, by omega⟩
 have HM := Lib.hid hM
 clear hI
 obtain ⟨w, a, n, c, t, k, vs, X⟩ := I
 dsimp only at *
 have hbx := boxes4 w #[.slice a n c, .int .i64 (k : Int)] #[.int .i64 ca, .int .i64 cb, .int .i64 cc, .int .i64 65, .int .i64 ce] #[.slice none 0 0, .int .i64 0] vs 131 133 80 131
 dsimp only at hbx
 go_enter Try.func147, Try.ntmps147
 go_upto_region 1 with fail
 generalize ((((w.alloc (.cells #[.slice a n c, .int .i64 (k : Int)] 131)).alloc (.cells (rgA vs) 133)).alloc (.cells #[.int .i64 ca, .int .i64 cb, .int .i64 cc, .int .i64 65, .int .i64 ce] 80)).alloc (.cells #[.slice none 0 0, .int .i64 0] 131)) = w4 at *
 obtain ⟨hLn, hRg, hCm, hZ, hbw, hsz⟩ := hbx
 obtain ⟨l0, l1, -, -⟩ := hLn.two
 obtain ⟨d0, d1, d2, d3, d4⟩ := Blk.five hCm
 have HMP := Lib.hid hM
 clear hM
 go_cut [9, 10] (fun u v wx => u = .int .i64 (M : Int) ∧ v = .int .i64 (n : Int) ∧ w4.drew = wx)
 case first =>
  rcases (show ca = 0 ∨ ca = 1 ∨ 2 ≤ ca by omega) with rfl | rfl | h3
  ·obtain rfl : M = 1 := by have := HM.out; omega
   go_region_held3 (fun w' => w'.cell? ⟨w.heap.size, 0, none⟩ = some (.slice a n c) ∧ w'.cell? ⟨w.heap.size + 2, 0, none⟩ = some (.int .i64 0)) (first | exact ⟨l0, d0⟩ | assumption) (fail)
   all_goals
    go_wp2
    go_meet
    exact ⟨rfl, rfl, rfl⟩
  ·obtain rfl : M = 1 := by have := HM.out; omega
   go_region_held3 (fun w' => w'.cell? ⟨w.heap.size, 0, none⟩ = some (.slice a n c) ∧ w'.cell? ⟨w.heap.size + 2, 0, none⟩ = some (.int .i64 1)) (first | exact ⟨l0, d0⟩ | assumption) (fail)
   all_goals
    go_wp2
    go_meet
    exact ⟨rfl, rfl, rfl⟩
  ·obtain rfl : ca = (M : Int) := by have := HM.out; omega
   go_region_held3 (fun w' => w'.cell? ⟨w.heap.size, 0, none⟩ = some (.slice a n c) ∧ w'.cell? ⟨w.heap.size + 2, 0, none⟩ = some (.int .i64 (M : Int))) (first | exact ⟨l0, d0⟩ | assumption) (fail)
   all_goals
    go_wp2
    go_meet
    exact ⟨rfl, rfl, rfl⟩
 obtain ⟨rfl, rfl, rfl⟩ := hcut
 replace hLn : Blk w4.drew _ _ _ := hLn
 replace hRg : BlkR w4.drew _ _ _ := hRg
 replace hCm : Blk w4.drew _ _ _ := hCm
 replace hZ : Blk w4.drew _ _ _ := hZ
 replace hbw : Below w.heap.size w w4.drew := hbw.drew
 replace hsz : w4.drew.heap.size = w.heap.size + 4 := hsz
 clear l0 l1 d0 d1 d2 d3 d4
 generalize w4.drew = w5 at *
 clear w4
 obtain ⟨l0, l1, -, -⟩ := Blk.two hLn
 obtain ⟨d0, d1, d2, d3, d4⟩ := Blk.five hCm
 obtain ⟨z0, z1, zf0, zf1⟩ := Blk.two hZ
 go_wp2
 exact bodyPost_ret (results_ctt Try.results147 rfl (line_loadVar (line_set hZ (.slice a _ c) ((n : Int))))) rfl ⟨a, _, c, rfl, .inl (.inl ⟨rfl, rfl⟩), line_bel hbw (by omega)⟩
set_option maxRecDepth 100000 in
set_option maxHeartbeats 4000000 in
theorem sim_no (I : In) (hI : InOk I) (ca cb cc ce : Int) (h0 : 0 ≤ ca) (h1 : ca ≤ 999) (d : Int) (hd : d ≠ 112 ∧ d ≠ 80 ∧ d ≠ 126 ∧ d ≠ 114 ∧ d ≠ 105 ∧ d ≠ 73 ∧ d ≠ 97 ∧ d ≠ 65 ∧ d ≠ 82) :
  Calls Try.prog 147 #[.agg #[.slice I.a I.n I.c, .int .i64 (I.k : Int)], .agg (rgA I.vs), .agg #[.int .i64 ca, .int .i64 cb, .int .i64 cc, .int .i64 d, .int .i64 ce]] I.w0 (SimPost I (9) (0) (I.k) (I.t) I.w0) := by
 have HI := Lib.hid hI
 have hlv := hI.rgs.lv
 have htop := hI.top
 have hk1 := hI.k1
 have x112 : (d == 112) = false := by simp; omega
 have x80 : (d == 80) = false := by simp; omega
 have x126 : (d == 126) = false := by simp; omega
 have x114 : (d == 114) = false := by simp; omega
 have x105 : (d == 105) = false := by simp; omega
 have x73 : (d == 73) = false := by simp; omega
 have x97 : (d == 97) = false := by simp; omega
 have x65 : (d == 65) = false := by simp; omega
 have x82 : (d == 82) = false := by simp; omega
 clear hd
 have HT := Lib.hid (show I.t.length = I.n from hI.len)
 have HTi := Lib.hid hI.ints
 have HN0 := Lib.hid hI.none
 have hcap := hI.cap; have hcap2 := hI.cap2
 obtain ⟨M, hM, hM1, hM2⟩ : ∃ M : Nat, max 1 ca = (M : Int) ∧ 1 ≤ M ∧ M ≤ 999 := ⟨(max 1 ca).toNat, by omega, by omega, by omega⟩
 have HM := Lib.hid hM
 clear hI
 obtain ⟨w, a, n, c, t, k, vs, X⟩ := I
 dsimp only at *
 have hbx := boxes4 w #[.slice a n c, .int .i64 (k : Int)] #[.int .i64 ca, .int .i64 cb, .int .i64 cc, .int .i64 d, .int .i64 ce] #[.slice none 0 0, .int .i64 0] vs 131 133 80 131
 dsimp only at hbx
 go_enter Try.func147, Try.ntmps147
 go_upto_region 1 with fail
 generalize ((((w.alloc (.cells #[.slice a n c, .int .i64 (k : Int)] 131)).alloc (.cells (rgA vs) 133)).alloc (.cells #[.int .i64 ca, .int .i64 cb, .int .i64 cc, .int .i64 d, .int .i64 ce] 80)).alloc (.cells #[.slice none 0 0, .int .i64 0] 131)) = w4 at *
 obtain ⟨hLn, hRg, hCm, hZ, hbw, hsz⟩ := hbx
 obtain ⟨l0, l1, -, -⟩ := hLn.two
 obtain ⟨d0, d1, d2, d3, d4⟩ := Blk.five hCm
 have HMP := Lib.hid hM
 clear hM
 go_cut [9, 10] (fun u v wx => u = .int .i64 (M : Int) ∧ v = .int .i64 (n : Int) ∧ w4.drew = wx)
 case first =>
  rcases (show ca = 0 ∨ ca = 1 ∨ 2 ≤ ca by omega) with rfl | rfl | h3
  ·obtain rfl : M = 1 := by have := HM.out; omega
   go_region_held3 (fun w' => w'.cell? ⟨w.heap.size, 0, none⟩ = some (.slice a n c) ∧ w'.cell? ⟨w.heap.size + 2, 0, none⟩ = some (.int .i64 0)) (first | exact ⟨l0, d0⟩ | assumption) (fail)
   all_goals
    go_wp2
    go_meet
    exact ⟨rfl, rfl, rfl⟩
  ·obtain rfl : M = 1 := by have := HM.out; omega
   go_region_held3 (fun w' => w'.cell? ⟨w.heap.size, 0, none⟩ = some (.slice a n c) ∧ w'.cell? ⟨w.heap.size + 2, 0, none⟩ = some (.int .i64 1)) (first | exact ⟨l0, d0⟩ | assumption) (fail)
   all_goals
    go_wp2
    go_meet
    exact ⟨rfl, rfl, rfl⟩
  ·obtain rfl : ca = (M : Int) := by have := HM.out; omega
   go_region_held3 (fun w' => w'.cell? ⟨w.heap.size, 0, none⟩ = some (.slice a n c) ∧ w'.cell? ⟨w.heap.size + 2, 0, none⟩ = some (.int .i64 (M : Int))) (first | exact ⟨l0, d0⟩ | assumption) (fail)
   all_goals
    go_wp2
    go_meet
    exact ⟨rfl, rfl, rfl⟩
 obtain ⟨rfl, rfl, rfl⟩ := hcut
 replace hLn : Blk w4.drew _ _ _ := hLn
 replace hRg : BlkR w4.drew _ _ _ := hRg
 replace hCm : Blk w4.drew _ _ _ := hCm
 replace hZ : Blk w4.drew _ _ _ := hZ
 replace hbw : Below w.heap.size w w4.drew := hbw.drew
 replace hsz : w4.drew.heap.size = w.heap.size + 4 := hsz
 clear l0 l1 d0 d1 d2 d3 d4
 generalize w4.drew = w5 at *
 clear w4
 obtain ⟨l0, l1, -, -⟩ := Blk.two hLn
 obtain ⟨d0, d1, d2, d3, d4⟩ := Blk.five hCm
 obtain ⟨z0, z1, zf0, zf1⟩ := Blk.two hZ
 go_wp2
 exact bodyPost_ret (results_ctt Try.results147 rfl (line_loadVar (line_set hZ (.slice a _ c) ((k : Int))))) rfl ⟨a, _, c, rfl, .inl (.inl ⟨rfl, rfl⟩), line_bel hbw (by omega)⟩
set_option maxRecDepth 100000 in
set_option maxHeartbeats 4000000 in
theorem sim_a (I : In) (hI : InOk I) (ca cb cc ce : Int) (h0 : 0 ≤ ca) (h1 : ca ≤ 999)  :
  Calls Try.prog 147 #[.agg #[.slice I.a I.n I.c, .int .i64 (I.k : Int)], .agg (rgA I.vs), .agg #[.int .i64 ca, .int .i64 cb, .int .i64 cc, .int .i64 97, .int .i64 ce]] I.w0 (SimPost I (0) (1) (min ((I.k : Int) + 1) I.n) (I.t) I.w0) := by
 have HI := Lib.hid hI
 have hlv := hI.rgs.lv
 have htop := hI.top
 have hk1 := hI.k1
 have HT := Lib.hid (show I.t.length = I.n from hI.len)
 have HTi := Lib.hid hI.ints
 have HN0 := Lib.hid hI.none
 have hcap := hI.cap; have hcap2 := hI.cap2
 obtain ⟨M, hM, hM1, hM2⟩ : ∃ M : Nat, max 1 ca = (M : Int) ∧ 1 ≤ M ∧ M ≤ 999 := ⟨(max 1 ca).toNat, by omega, by omega, by omega⟩
 have HM := Lib.hid hM
 clear hI
 obtain ⟨w, a, n, c, t, k, vs, X⟩ := I
 dsimp only at *
 have hbx := boxes4 w #[.slice a n c, .int .i64 (k : Int)] #[.int .i64 ca, .int .i64 cb, .int .i64 cc, .int .i64 97, .int .i64 ce] #[.slice none 0 0, .int .i64 0] vs 131 133 80 131
 dsimp only at hbx
 go_enter Try.func147, Try.ntmps147
 go_upto_region 1 with fail
 generalize ((((w.alloc (.cells #[.slice a n c, .int .i64 (k : Int)] 131)).alloc (.cells (rgA vs) 133)).alloc (.cells #[.int .i64 ca, .int .i64 cb, .int .i64 cc, .int .i64 97, .int .i64 ce] 80)).alloc (.cells #[.slice none 0 0, .int .i64 0] 131)) = w4 at *
 obtain ⟨hLn, hRg, hCm, hZ, hbw, hsz⟩ := hbx
 obtain ⟨l0, l1, -, -⟩ := hLn.two
 obtain ⟨d0, d1, d2, d3, d4⟩ := Blk.five hCm
 have HMP := Lib.hid hM
 clear hM
 go_cut [9, 10] (fun u v wx => u = .int .i64 (M : Int) ∧ v = .int .i64 (n : Int) ∧ w4.drew = wx)
 case first =>
  rcases (show ca = 0 ∨ ca = 1 ∨ 2 ≤ ca by omega) with rfl | rfl | h3
  ·obtain rfl : M = 1 := by have := HM.out; omega
   go_region_held3 (fun w' => w'.cell? ⟨w.heap.size, 0, none⟩ = some (.slice a n c) ∧ w'.cell? ⟨w.heap.size + 2, 0, none⟩ = some (.int .i64 0)) (first | exact ⟨l0, d0⟩ | assumption) (fail)
   all_goals
    go_wp2
    go_meet
    exact ⟨rfl, rfl, rfl⟩
  ·obtain rfl : M = 1 := by have := HM.out; omega
   go_region_held3 (fun w' => w'.cell? ⟨w.heap.size, 0, none⟩ = some (.slice a n c) ∧ w'.cell? ⟨w.heap.size + 2, 0, none⟩ = some (.int .i64 1)) (first | exact ⟨l0, d0⟩ | assumption) (fail)
   all_goals
    go_wp2
    go_meet
    exact ⟨rfl, rfl, rfl⟩
  ·obtain rfl : ca = (M : Int) := by have := HM.out; omega
   go_region_held3 (fun w' => w'.cell? ⟨w.heap.size, 0, none⟩ = some (.slice a n c) ∧ w'.cell? ⟨w.heap.size + 2, 0, none⟩ = some (.int .i64 (M : Int))) (first | exact ⟨l0, d0⟩ | assumption) (fail)
   all_goals
    go_wp2
    go_meet
    exact ⟨rfl, rfl, rfl⟩
 obtain ⟨rfl, rfl, rfl⟩ := hcut
 replace hLn : Blk w4.drew _ _ _ := hLn
 replace hRg : BlkR w4.drew _ _ _ := hRg
 replace hCm : Blk w4.drew _ _ _ := hCm
 replace hZ : Blk w4.drew _ _ _ := hZ
 replace hbw : Below w.heap.size w w4.drew := hbw.drew
 replace hsz : w4.drew.heap.size = w.heap.size + 4 := hsz
 clear l0 l1 d0 d1 d2 d3 d4
 generalize w4.drew = w5 at *
 clear w4
 obtain ⟨l0, l1, -, -⟩ := Blk.two hLn
 obtain ⟨d0, d1, d2, d3, d4⟩ := Blk.five hCm
 obtain ⟨z0, z1, zf0, zf1⟩ := Blk.two hZ
 rcases (show (k + 1 < n) ∨ (k + 1 = n) ∨ (n = 0 ∧ k = 0) by omega) with h3 | h3 | ⟨rfl, rfl⟩
 ·have e : min ((k : Int) + 1) n = (k : Int) + 1 := by omega
  have HE := Lib.hid e; clear e
  go_wp2
  all_goals
   rw [HE.out]
   exact bodyPost_ret (results_ctt Try.results147 rfl (line_loadVar (line_set hZ (.slice a _ c) ((k : Int) + 1)))) rfl ⟨a, _, c, rfl, .inl (.inl ⟨rfl, rfl⟩), line_bel hbw (by omega)⟩
 ·subst h3
  have e : min ((k : Int) + 1) ((k + 1 : Nat) : Int) = (k : Int) + 1 := by omega
  have HE := Lib.hid e; clear e
  go_wp2
  all_goals
   rw [HE.out]
   exact bodyPost_ret (results_ctt Try.results147 rfl (line_loadVar (line_set hZ (.slice a _ c) ((k : Int) + 1)))) rfl ⟨a, _, c, rfl, .inl (.inl ⟨rfl, rfl⟩), line_bel hbw (by omega)⟩
 ·go_wp2
  exact bodyPost_ret (results_ctt Try.results147 rfl (line_loadVar (line_set hZ (.slice a _ c) (0)))) rfl ⟨a, _, c, rfl, .inl (.inl ⟨rfl, rfl⟩), line_bel hbw (by omega)⟩
set_option maxRecDepth 100000 in
set_option maxHeartbeats 4000000 in
theorem sim_I (I : In) (hI : InOk I) (ca cb cc ce : Int) (h0 : 0 ≤ ca) (h1 : ca ≤ 999)  :
  Calls Try.prog 147 #[.agg #[.slice I.a I.n I.c, .int .i64 (I.k : Int)], .agg (rgA I.vs), .agg #[.int .i64 ca, .int .i64 cb, .int .i64 cc, .int .i64 73, .int .i64 ce]] I.w0 (SimPost I (0) (1) (firstF I.t) (I.t) I.w0) := by
 have HI := Lib.hid hI
 have hlv := hI.rgs.lv
 have htop := hI.top
 have hk1 := hI.k1
 have hgo := fun (w1 : World) (hb : Below I.w0.heap.size I.w0 w1) => ref_go_first I hI w1 hb
 obtain ⟨F, hF⟩ : ∃ F, firstF I.t = F := ⟨_, rfl⟩
 rw [hF] at hgo ⊢
 have HGO := Lib.hid hgo
 clear hgo hF
 have HT := Lib.hid (show I.t.length = I.n from hI.len)
 have HTi := Lib.hid hI.ints
 have HN0 := Lib.hid hI.none
 have hcap := hI.cap; have hcap2 := hI.cap2
 obtain ⟨M, hM, hM1, hM2⟩ : ∃ M : Nat, max 1 ca = (M : Int) ∧ 1 ≤ M ∧ M ≤ 999 := ⟨(max 1 ca).toNat, by omega, by omega, by omega⟩
 have HM := Lib.hid hM
 clear hI
 obtain ⟨w, a, n, c, t, k, vs, X⟩ := I
 dsimp only at *
 have hbx := boxes4 w #[.slice a n c, .int .i64 (k : Int)] #[.int .i64 ca, .int .i64 cb, .int .i64 cc, .int .i64 73, .int .i64 ce] #[.slice none 0 0, .int .i64 0] vs 131 133 80 131
 dsimp only at hbx
 go_enter Try.func147, Try.ntmps147
 go_upto_region 1 with fail
 generalize ((((w.alloc (.cells #[.slice a n c, .int .i64 (k : Int)] 131)).alloc (.cells (rgA vs) 133)).alloc (.cells #[.int .i64 ca, .int .i64 cb, .int .i64 cc, .int .i64 73, .int .i64 ce] 80)).alloc (.cells #[.slice none 0 0, .int .i64 0] 131)) = w4 at *
 obtain ⟨hLn, hRg, hCm, hZ, hbw, hsz⟩ := hbx
 obtain ⟨l0, l1, -, -⟩ := hLn.two
 obtain ⟨d0, d1, d2, d3, d4⟩ := Blk.five hCm
 have HMP := Lib.hid hM
 clear hM
 go_cut [9, 10] (fun u v wx => u = .int .i64 (M : Int) ∧ v = .int .i64 (n : Int) ∧ w4.drew = wx)
 case first =>
  rcases (show ca = 0 ∨ ca = 1 ∨ 2 ≤ ca by omega) with rfl | rfl | h3
  ·obtain rfl : M = 1 := by have := HM.out; omega
   go_region_held3 (fun w' => w'.cell? ⟨w.heap.size, 0, none⟩ = some (.slice a n c) ∧ w'.cell? ⟨w.heap.size + 2, 0, none⟩ = some (.int .i64 0)) (first | exact ⟨l0, d0⟩ | assumption) (fail)
   all_goals
    go_wp2
    go_meet
    exact ⟨rfl, rfl, rfl⟩
  ·obtain rfl : M = 1 := by have := HM.out; omega
   go_region_held3 (fun w' => w'.cell? ⟨w.heap.size, 0, none⟩ = some (.slice a n c) ∧ w'.cell? ⟨w.heap.size + 2, 0, none⟩ = some (.int .i64 1)) (first | exact ⟨l0, d0⟩ | assumption) (fail)
   all_goals
    go_wp2
    go_meet
    exact ⟨rfl, rfl, rfl⟩
  ·obtain rfl : ca = (M : Int) := by have := HM.out; omega
   go_region_held3 (fun w' => w'.cell? ⟨w.heap.size, 0, none⟩ = some (.slice a n c) ∧ w'.cell? ⟨w.heap.size + 2, 0, none⟩ = some (.int .i64 (M : Int))) (first | exact ⟨l0, d0⟩ | assumption) (fail)
   all_goals
    go_wp2
    go_meet
    exact ⟨rfl, rfl, rfl⟩
 obtain ⟨rfl, rfl, rfl⟩ := hcut
 replace hLn : Blk w4.drew _ _ _ := hLn
 replace hRg : BlkR w4.drew _ _ _ := hRg
 replace hCm : Blk w4.drew _ _ _ := hCm
 replace hZ : Blk w4.drew _ _ _ := hZ
 replace hbw : Below w.heap.size w w4.drew := hbw.drew
 replace hsz : w4.drew.heap.size = w.heap.size + 4 := hsz
 clear l0 l1 d0 d1 d2 d3 d4
 generalize w4.drew = w5 at *
 clear w4
 obtain ⟨l0, l1, -, -⟩ := Blk.two hLn
 obtain ⟨d0, d1, d2, d3, d4⟩ := Blk.five hCm
 obtain ⟨z0, z1, zf0, zf1⟩ := Blk.two hZ
 go_wp2_with (go_at_call 146; go_loud (refine (HGO.out w5 hbw).mono ?_; rintro e w6 ⟨b6, rfl, hb6⟩; have hLn6 := hLn.below hb6 hLn.lt; have hZ6 := hZ.below hb6 hZ.lt; have hb7 := hbw.trans (hb6.mono (by omega)); clear l0 l1 z0 z1 zf0 zf1; obtain ⟨l0, l1, -, -⟩ := Blk.two hLn6; obtain ⟨z0, z1, zf0, zf1⟩ := Blk.two hZ6))
 exact bodyPost_ret (results_ctt Try.results147 rfl (line_loadVar (line_set hZ6 (.slice a _ c) (F)))) rfl ⟨a, _, c, rfl, .inl (.inl ⟨rfl, rfl⟩), line_bel hb7 (by omega)⟩
set_option maxRecDepth 100000 in
set_option maxHeartbeats 4000000 in
theorem sim_t0 (I : In) (hI : InOk I) (ca cb cc ce : Int) (h0 : 0 ≤ ca) (h1 : ca ≤ 999) (hn : I.n = 0) :
  Calls Try.prog 147 #[.agg #[.slice I.a I.n I.c, .int .i64 (I.k : Int)], .agg (rgA I.vs), .agg #[.int .i64 ca, .int .i64 cb, .int .i64 cc, .int .i64 126, .int .i64 ce]] I.w0 (SimPost I (5) (0) (I.k) (I.t) I.w0) := by
 have HI := Lib.hid hI
 have hlv := hI.rgs.lv
 have htop := hI.top
 have hk1 := hI.k1
 have HNZ := Lib.hid hn
 clear hn
 have HT := Lib.hid (show I.t.length = I.n from hI.len)
 have HTi := Lib.hid hI.ints
 have HN0 := Lib.hid hI.none
 have hcap := hI.cap; have hcap2 := hI.cap2
 obtain ⟨M, hM, hM1, hM2⟩ : ∃ M : Nat, max 1 ca = (M : Int) ∧ 1 ≤ M ∧ M ≤ 999 := ⟨(max 1 ca).toNat, by omega, by omega, by omega⟩
 have HM := Lib.hid hM
 clear hI
 obtain ⟨w, a, n, c, t, k, vs, X⟩ := I
 dsimp only at *
 have hbx := boxes4 w #[.slice a n c, .int .i64 (k : Int)] #[.int .i64 ca, .int .i64 cb, .int .i64 cc, .int .i64 126, .int .i64 ce] #[.slice none 0 0, .int .i64 0] vs 131 133 80 131
 dsimp only at hbx
 go_enter Try.func147, Try.ntmps147
 go_upto_region 1 with fail
 generalize ((((w.alloc (.cells #[.slice a n c, .int .i64 (k : Int)] 131)).alloc (.cells (rgA vs) 133)).alloc (.cells #[.int .i64 ca, .int .i64 cb, .int .i64 cc, .int .i64 126, .int .i64 ce] 80)).alloc (.cells #[.slice none 0 0, .int .i64 0] 131)) = w4 at *
 obtain ⟨hLn, hRg, hCm, hZ, hbw, hsz⟩ := hbx
 obtain ⟨l0, l1, -, -⟩ := hLn.two
 obtain ⟨d0, d1, d2, d3, d4⟩ := Blk.five hCm
 have HMP := Lib.hid hM
 clear hM
 go_cut [9, 10] (fun u v wx => u = .int .i64 (M : Int) ∧ v = .int .i64 (n : Int) ∧ w4.drew = wx)
 case first =>
  rcases (show ca = 0 ∨ ca = 1 ∨ 2 ≤ ca by omega) with rfl | rfl | h3
  ·obtain rfl : M = 1 := by have := HM.out; omega
   go_region_held3 (fun w' => w'.cell? ⟨w.heap.size, 0, none⟩ = some (.slice a n c) ∧ w'.cell? ⟨w.heap.size + 2, 0, none⟩ = some (.int .i64 0)) (first | exact ⟨l0, d0⟩ | assumption) (fail)
   all_goals
    go_wp2
    go_meet
    exact ⟨rfl, rfl, rfl⟩
  ·obtain rfl : M = 1 := by have := HM.out; omega
   go_region_held3 (fun w' => w'.cell? ⟨w.heap.size, 0, none⟩ = some (.slice a n c) ∧ w'.cell? ⟨w.heap.size + 2, 0, none⟩ = some (.int .i64 1)) (first | exact ⟨l0, d0⟩ | assumption) (fail)
   all_goals
    go_wp2
    go_meet
    exact ⟨rfl, rfl, rfl⟩
  ·obtain rfl : ca = (M : Int) := by have := HM.out; omega
   go_region_held3 (fun w' => w'.cell? ⟨w.heap.size, 0, none⟩ = some (.slice a n c) ∧ w'.cell? ⟨w.heap.size + 2, 0, none⟩ = some (.int .i64 (M : Int))) (first | exact ⟨l0, d0⟩ | assumption) (fail)
   all_goals
    go_wp2
    go_meet
    exact ⟨rfl, rfl, rfl⟩
 obtain ⟨rfl, rfl, rfl⟩ := hcut
 replace hLn : Blk w4.drew _ _ _ := hLn
 replace hRg : BlkR w4.drew _ _ _ := hRg
 replace hCm : Blk w4.drew _ _ _ := hCm
 replace hZ : Blk w4.drew _ _ _ := hZ
 replace hbw : Below w.heap.size w w4.drew := hbw.drew
 replace hsz : w4.drew.heap.size = w.heap.size + 4 := hsz
 clear l0 l1 d0 d1 d2 d3 d4
 generalize w4.drew = w5 at *
 clear w4
 obtain ⟨l0, l1, -, -⟩ := Blk.two hLn
 obtain ⟨d0, d1, d2, d3, d4⟩ := Blk.five hCm
 obtain ⟨z0, z1, zf0, zf1⟩ := Blk.two hZ
 have xn : ((n : Int) == 0) = true := by have := HNZ.out; simp; omega
 go_wp2
 exact bodyPost_ret (results_ctt Try.results147 rfl (line_loadVar (line_set hZ (.slice a _ c) ((k : Int))))) rfl ⟨a, _, c, rfl, .inl (.inl ⟨rfl, rfl⟩), line_bel hbw (by omega)⟩
set_option maxRecDepth 100000 in
set_option maxHeartbeats 4000000 in
theorem sim_r0 (I : In) (hI : InOk I) (ca cb cc ce : Int) (h0 : 0 ≤ ca) (h1 : ca ≤ 999) (hn : (I.n : Int) < I.k + max 1 ca) :
  Calls Try.prog 147 #[.agg #[.slice I.a I.n I.c, .int .i64 (I.k : Int)], .agg (rgA I.vs), .agg #[.int .i64 ca, .int .i64 cb, .int .i64 cc, .int .i64 114, .int .i64 ce]] I.w0 (SimPost I (5) (0) (I.k) (I.t) I.w0) := by
 have HI := Lib.hid hI
 have hlv := hI.rgs.lv
 have htop := hI.top
 have hk1 := hI.k1
 have HT := Lib.hid (show I.t.length = I.n from hI.len)
 have HTi := Lib.hid hI.ints
 have HN0 := Lib.hid hI.none
 have hcap := hI.cap; have hcap2 := hI.cap2
 obtain ⟨M, hM, hM1, hM2⟩ : ∃ M : Nat, max 1 ca = (M : Int) ∧ 1 ≤ M ∧ M ≤ 999 := ⟨(max 1 ca).toNat, by omega, by omega, by omega⟩
 have HM := Lib.hid hM
 clear hI
 obtain ⟨w, a, n, c, t, k, vs, X⟩ := I
 dsimp only at *
 have hbx := boxes4 w #[.slice a n c, .int .i64 (k : Int)] #[.int .i64 ca, .int .i64 cb, .int .i64 cc, .int .i64 114, .int .i64 ce] #[.slice none 0 0, .int .i64 0] vs 131 133 80 131
 dsimp only at hbx
 go_enter Try.func147, Try.ntmps147
 go_upto_region 1 with fail
 generalize ((((w.alloc (.cells #[.slice a n c, .int .i64 (k : Int)] 131)).alloc (.cells (rgA vs) 133)).alloc (.cells #[.int .i64 ca, .int .i64 cb, .int .i64 cc, .int .i64 114, .int .i64 ce] 80)).alloc (.cells #[.slice none 0 0, .int .i64 0] 131)) = w4 at *
 obtain ⟨hLn, hRg, hCm, hZ, hbw, hsz⟩ := hbx
 obtain ⟨l0, l1, -, -⟩ := hLn.two
 obtain ⟨d0, d1, d2, d3, d4⟩ := Blk.five hCm
 have HMP := Lib.hid hM
 clear hM
 go_cut [9, 10] (fun u v wx => u = .int .i64 (M : Int) ∧ v = .int .i64 (n : Int) ∧ w4.drew = wx)
 case first =>
  rcases (show ca = 0 ∨ ca = 1 ∨ 2 ≤ ca by omega) with rfl | rfl | h3
  ·obtain rfl : M = 1 := by have := HM.out; omega
   go_region_held3 (fun w' => w'.cell? ⟨w.heap.size, 0, none⟩ = some (.slice a n c) ∧ w'.cell? ⟨w.heap.size + 2, 0, none⟩ = some (.int .i64 0)) (first | exact ⟨l0, d0⟩ | assumption) (fail)
   all_goals
    go_wp2
    go_meet
    exact ⟨rfl, rfl, rfl⟩
  ·obtain rfl : M = 1 := by have := HM.out; omega
   go_region_held3 (fun w' => w'.cell? ⟨w.heap.size, 0, none⟩ = some (.slice a n c) ∧ w'.cell? ⟨w.heap.size + 2, 0, none⟩ = some (.int .i64 1)) (first | exact ⟨l0, d0⟩ | assumption) (fail)
   all_goals
    go_wp2
    go_meet
    exact ⟨rfl, rfl, rfl⟩
  ·obtain rfl : ca = (M : Int) := by have := HM.out; omega
   go_region_held3 (fun w' => w'.cell? ⟨w.heap.size, 0, none⟩ = some (.slice a n c) ∧ w'.cell? ⟨w.heap.size + 2, 0, none⟩ = some (.int .i64 (M : Int))) (first | exact ⟨l0, d0⟩ | assumption) (fail)
   all_goals
    go_wp2
    go_meet
    exact ⟨rfl, rfl, rfl⟩
 obtain ⟨rfl, rfl, rfl⟩ := hcut
 replace hLn : Blk w4.drew _ _ _ := hLn
 replace hRg : BlkR w4.drew _ _ _ := hRg
 replace hCm : Blk w4.drew _ _ _ := hCm
 replace hZ : Blk w4.drew _ _ _ := hZ
 replace hbw : Below w.heap.size w w4.drew := hbw.drew
 replace hsz : w4.drew.heap.size = w.heap.size + 4 := hsz
 clear l0 l1 d0 d1 d2 d3 d4
 generalize w4.drew = w5 at *
 clear w4
 obtain ⟨l0, l1, -, -⟩ := Blk.two hLn
 obtain ⟨d0, d1, d2, d3, d4⟩ := Blk.five hCm
 obtain ⟨z0, z1, zf0, zf1⟩ := Blk.two hZ
 rw [HM.out] at hn
 go_wp2
 exact bodyPost_ret (results_ctt Try.results147 rfl (line_loadVar (line_set hZ (.slice a _ c) ((k : Int))))) rfl ⟨a, _, c, rfl, .inl (.inl ⟨rfl, rfl⟩), line_bel hbw (by omega)⟩
set_option maxRecDepth 100000 in
set_option maxHeartbeats 4000000 in
theorem sim_t (I : In) (hI : InOk I) (ca cb cc ce : Int) (h0 : 0 ≤ ca) (h1 : ca ≤ 999) (hn : 0 < I.n) :
  Calls Try.prog 147 #[.agg #[.slice I.a I.n I.c, .int .i64 (I.k : Int)], .agg (rgA I.vs), .agg #[.int .i64 ca, .int .i64 cb, .int .i64 cc, .int .i64 126, .int .i64 ce]] I.w0 (SimPost I (0) (0) (min ((I.k : Int) + max 1 ca) ((I.n : Int) - 1)) (mapTo turnV I.t I.k (min (max 1 ca).toNat (I.n - I.k))) I.w0) := by
 have HI := Lib.hid hI
 have hlv := hI.rgs.lv
 have htop := hI.top
 have hk1 := hI.k1
 have HNP := Lib.hid hn
 clear hn
 have HT := Lib.hid (show I.t.length = I.n from hI.len)
 have HTi := Lib.hid hI.ints
 have HN0 := Lib.hid hI.none
 have hcap := hI.cap; have hcap2 := hI.cap2
 obtain ⟨M, hM, hM1, hM2⟩ : ∃ M : Nat, max 1 ca = (M : Int) ∧ 1 ≤ M ∧ M ≤ 999 := ⟨(max 1 ca).toNat, by omega, by omega, by omega⟩
 have HM := Lib.hid hM
 clear hI
 obtain ⟨w, a, n, c, t, k, vs, X⟩ := I
 dsimp only at *
 have hbx := boxes4 w #[.slice a n c, .int .i64 (k : Int)] #[.int .i64 ca, .int .i64 cb, .int .i64 cc, .int .i64 126, .int .i64 ce] #[.slice none 0 0, .int .i64 0] vs 131 133 80 131
 dsimp only at hbx
 go_enter Try.func147, Try.ntmps147
 go_upto_region 1 with fail
 generalize ((((w.alloc (.cells #[.slice a n c, .int .i64 (k : Int)] 131)).alloc (.cells (rgA vs) 133)).alloc (.cells #[.int .i64 ca, .int .i64 cb, .int .i64 cc, .int .i64 126, .int .i64 ce] 80)).alloc (.cells #[.slice none 0 0, .int .i64 0] 131)) = w4 at *
 obtain ⟨hLn, hRg, hCm, hZ, hbw, hsz⟩ := hbx
 obtain ⟨l0, l1, -, -⟩ := hLn.two
 obtain ⟨d0, d1, d2, d3, d4⟩ := Blk.five hCm
 have HMP := Lib.hid hM
 clear hM
 go_cut [9, 10] (fun u v wx => u = .int .i64 (M : Int) ∧ v = .int .i64 (n : Int) ∧ w4.drew = wx)
 case first =>
  rcases (show ca = 0 ∨ ca = 1 ∨ 2 ≤ ca by omega) with rfl | rfl | h3
  ·obtain rfl : M = 1 := by have := HM.out; omega
   go_region_held3 (fun w' => w'.cell? ⟨w.heap.size, 0, none⟩ = some (.slice a n c) ∧ w'.cell? ⟨w.heap.size + 2, 0, none⟩ = some (.int .i64 0)) (first | exact ⟨l0, d0⟩ | assumption) (fail)
   all_goals
    go_wp2
    go_meet
    exact ⟨rfl, rfl, rfl⟩
  ·obtain rfl : M = 1 := by have := HM.out; omega
   go_region_held3 (fun w' => w'.cell? ⟨w.heap.size, 0, none⟩ = some (.slice a n c) ∧ w'.cell? ⟨w.heap.size + 2, 0, none⟩ = some (.int .i64 1)) (first | exact ⟨l0, d0⟩ | assumption) (fail)
   all_goals
    go_wp2
    go_meet
    exact ⟨rfl, rfl, rfl⟩
  ·obtain rfl : ca = (M : Int) := by have := HM.out; omega
   go_region_held3 (fun w' => w'.cell? ⟨w.heap.size, 0, none⟩ = some (.slice a n c) ∧ w'.cell? ⟨w.heap.size + 2, 0, none⟩ = some (.int .i64 (M : Int))) (first | exact ⟨l0, d0⟩ | assumption) (fail)
   all_goals
    go_wp2
    go_meet
    exact ⟨rfl, rfl, rfl⟩
 obtain ⟨rfl, rfl, rfl⟩ := hcut
 replace hLn : Blk w4.drew _ _ _ := hLn
 replace hRg : BlkR w4.drew _ _ _ := hRg
 replace hCm : Blk w4.drew _ _ _ := hCm
 replace hZ : Blk w4.drew _ _ _ := hZ
 replace hbw : Below w.heap.size w w4.drew := hbw.drew
 replace hsz : w4.drew.heap.size = w.heap.size + 4 := hsz
 clear l0 l1 d0 d1 d2 d3 d4
 generalize w4.drew = w5 at *
 clear w4
 obtain ⟨l0, l1, -, -⟩ := Blk.two hLn
 obtain ⟨d0, d1, d2, d3, d4⟩ := Blk.five hCm
 obtain ⟨z0, z1, zf0, zf1⟩ := Blk.two hZ
 have hn := HNP.out
 obtain ⟨K2, hK2⟩ : ∃ K2, k + M = K2 := ⟨_, rfl⟩
 obtain ⟨N1, hN1⟩ : ∃ N1, n = N1 + 1 := ⟨n - 1, by omega⟩
 have iw1 : IntKind.i64.wrap ((k : Int) + (M : Int)) = (K2 : Int) := by rw [← hK2]; rw [IntKind.wrap_i64]; omega
 have iw2 : IntKind.i64.wrap ((n : Int) - 1) = (N1 : Int) := by rw [hN1]; rw [IntKind.wrap_i64]; omega
 have iw3 : (k : Int) + (M : Int) = (K2 : Int) := by omega
 obtain ⟨pv, hpv⟩ : ∃ pv : Int, min (K2 : Int) (N1 : Int) = pv := ⟨_, rfl⟩
 have HPV := Lib.hid (show min ((k : Int) + max 1 ca) ((n : Int) - 1) = pv by rw [HM.out, ← hpv]; omega)
 have HPM := Lib.hid hpv
 have HMM := Lib.hid (show min (max 1 ca).toNat (n - k) = min M (n - k) by rw [HM.out]; rfl)
 have HKK := Lib.hid hK2; have HN1 := Lib.hid hN1
 have hTi := HTi.out.below hbw
 have HCL := Lib.hid (fun (wx : World) (hb : Below w5.heap.size w5 wx) => slices_clone a n c t wx (hTi.below hb) HT.out (by omega) HN0.out)
 have hlw : w.heap.size < w5.heap.size := by omega
 have hlw4 : w.heap.size + 4 ≤ w5.heap.size := by omega
 have xn : ((n : Int) == 0) = false := by simp; omega
 clear hpv hK2 hN1 hn iw3 hsz
 go_upto_region 10 with fail
 go_cut [13] (fun v wx => ∃ B g c8, v = .pointer (some ⟨B, 0, none⟩) ∧ Blk wx B #[.slice (some ⟨g, 0, none⟩) n c8, .int .i64 pv] 131 ∧ Own 3 w5.heap.size wx (.slice (some ⟨g, 0, none⟩) n c8) t ∧ w5.heap.size ≤ B ∧ B ≠ g ∧ w5.heap.size ≤ g ∧ Below w5.heap.size w5 wx)
 case first =>
  rcases Nat.lt_trichotomy K2 N1 with h3 | rfl | h3
  ·obtain rfl : pv = (K2 : Int) := by have := HPM.out; omega
   have i3 : (K2 : Int) < (N1 : Int) := by omega
   have i4 : ¬ N1 < K2 := by omega
   go_region_held3 (fun w' => w'.cell? ⟨w.heap.size, 0, none⟩ = some (.slice a n c) ∧ w'.cell? ⟨w.heap.size, 1, none⟩ = some (.int .i64 (k : Int)) ∧ Below w5.heap.size w5 w') (first | exact ⟨l0, l1, (Below.refl _ _).drew⟩ | (with_reducible assumption) | exact keepL hlw ⟨l0, l1, Below.refl _ _⟩ hk8 | exact keepL hlw ⟨l0, l1, Below.refl _ _⟩ (hk8.alloc hq8 _) | exact keepLA hlw ‹_› _ | exact keepLS hlw (keepLS hlw ‹_› hq8 _) hq8 _ | exact keepLS hlw (keepLS hlw ‹_› (Nat.le_refl _) _) (Nat.le_refl _) _) (first | (go_at_call 98; (with_reducible show Calls _ _ _ (w5.drew) _); go_loud (refine (HCL.out w5.drew (Below.refl _ _).drew).mono ?_; rintro e w8 ⟨v8, rfl, o8, hb8⟩; obtain ⟨g, k8, c8, rfl, q1, q2, q3, -, q5, q6, -⟩ := o8.full (by rw [HT.out]; exact HNP.out); obtain rfl : k8 = n := (by rw [HT.out] at q1 q2; omega); have hk8 : Below w5.heap.size w5 w8 := (Below.refl w5.heap.size w5).drew.trans hb8; have hq8 : w5.heap.size ≤ w8.heap.size := hb8.size)) | (go_at_call 98; go_loud (refine (HCL.out _ (below1 _ _).drew).mono ?_; rintro e w8 ⟨v8, rfl, o8, hb8⟩; obtain ⟨g, k8, c8, rfl, q1, q2, q3, -, q5, q6, -⟩ := o8.full (by rw [HT.out]; exact HNP.out); obtain rfl : k8 = n := (by rw [HT.out] at q1 q2; omega); have hk8 : Below w5.heap.size w5 w8 := (below1 w5 _).drew.trans (hb8.mono (show w5.heap.size ≤ _ from size_alloc_le (Nat.le_refl _) _)); have hB8 := (Blk.new w5 _ _).drew.below hb8 (by show w5.heap.size < (w5.alloc _).heap.size; rw [World.size_alloc]; exact Nat.lt_succ_self _); obtain ⟨y0, y1, yf0, yf1⟩ := Blk.two hB8)))
   all_goals
    go_wp2
    go_meet
    first
     | exact ⟨_, g, c8, rfl, Blk.new w8 _ _, o8.alloc _, hq8, Nat.ne_of_gt q6, q5, hk8.alloc hq8 _⟩
     | exact ⟨_, g, c8, rfl, line_set hB8 _ _, own_set2 (by show w5.heap.size < (w5.alloc _).heap.size; rw [World.size_alloc]; exact Nat.lt_succ_self _) o8, Nat.le_refl _, Nat.ne_of_lt (Nat.lt_of_lt_of_le (by show w5.heap.size < (w5.alloc _).heap.size; rw [World.size_alloc]; exact Nat.lt_succ_self _) q5), Nat.le_trans (size_alloc_le (Nat.le_refl _) _) q5, line_bel hk8 (Nat.le_refl _)⟩
  ·obtain rfl : pv = (K2 : Int) := by have := HPM.out; omega
   go_region_held3 (fun w' => w'.cell? ⟨w.heap.size, 0, none⟩ = some (.slice a n c) ∧ w'.cell? ⟨w.heap.size, 1, none⟩ = some (.int .i64 (k : Int)) ∧ Below w5.heap.size w5 w') (first | exact ⟨l0, l1, (Below.refl _ _).drew⟩ | (with_reducible assumption) | exact keepL hlw ⟨l0, l1, Below.refl _ _⟩ hk8 | exact keepL hlw ⟨l0, l1, Below.refl _ _⟩ (hk8.alloc hq8 _) | exact keepLA hlw ‹_› _ | exact keepLS hlw (keepLS hlw ‹_› hq8 _) hq8 _ | exact keepLS hlw (keepLS hlw ‹_› (Nat.le_refl _) _) (Nat.le_refl _) _) (first | (go_at_call 98; (with_reducible show Calls _ _ _ (w5.drew) _); go_loud (refine (HCL.out w5.drew (Below.refl _ _).drew).mono ?_; rintro e w8 ⟨v8, rfl, o8, hb8⟩; obtain ⟨g, k8, c8, rfl, q1, q2, q3, -, q5, q6, -⟩ := o8.full (by rw [HT.out]; exact HNP.out); obtain rfl : k8 = n := (by rw [HT.out] at q1 q2; omega); have hk8 : Below w5.heap.size w5 w8 := (Below.refl w5.heap.size w5).drew.trans hb8; have hq8 : w5.heap.size ≤ w8.heap.size := hb8.size)) | (go_at_call 98; go_loud (refine (HCL.out _ (below1 _ _).drew).mono ?_; rintro e w8 ⟨v8, rfl, o8, hb8⟩; obtain ⟨g, k8, c8, rfl, q1, q2, q3, -, q5, q6, -⟩ := o8.full (by rw [HT.out]; exact HNP.out); obtain rfl : k8 = n := (by rw [HT.out] at q1 q2; omega); have hk8 : Below w5.heap.size w5 w8 := (below1 w5 _).drew.trans (hb8.mono (show w5.heap.size ≤ _ from size_alloc_le (Nat.le_refl _) _)); have hB8 := (Blk.new w5 _ _).drew.below hb8 (by show w5.heap.size < (w5.alloc _).heap.size; rw [World.size_alloc]; exact Nat.lt_succ_self _); obtain ⟨y0, y1, yf0, yf1⟩ := Blk.two hB8)))
   all_goals
    go_wp2
    go_meet
    first
     | exact ⟨_, g, c8, rfl, Blk.new w8 _ _, o8.alloc _, hq8, Nat.ne_of_gt q6, q5, hk8.alloc hq8 _⟩
     | exact ⟨_, g, c8, rfl, line_set hB8 _ _, own_set2 (by show w5.heap.size < (w5.alloc _).heap.size; rw [World.size_alloc]; exact Nat.lt_succ_self _) o8, Nat.le_refl _, Nat.ne_of_lt (Nat.lt_of_lt_of_le (by show w5.heap.size < (w5.alloc _).heap.size; rw [World.size_alloc]; exact Nat.lt_succ_self _) q5), Nat.le_trans (size_alloc_le (Nat.le_refl _) _) q5, line_bel hk8 (Nat.le_refl _)⟩
  ·obtain rfl : pv = (N1 : Int) := by have := HPM.out; omega
   have i3 : (N1 : Int) < (K2 : Int) := by omega
   go_region_held3 (fun w' => w'.cell? ⟨w.heap.size, 0, none⟩ = some (.slice a n c) ∧ w'.cell? ⟨w.heap.size, 1, none⟩ = some (.int .i64 (k : Int)) ∧ Below w5.heap.size w5 w') (first | exact ⟨l0, l1, (Below.refl _ _).drew⟩ | (with_reducible assumption) | exact keepL hlw ⟨l0, l1, Below.refl _ _⟩ hk8 | exact keepL hlw ⟨l0, l1, Below.refl _ _⟩ (hk8.alloc hq8 _) | exact keepLA hlw ‹_› _ | exact keepLS hlw (keepLS hlw ‹_› hq8 _) hq8 _ | exact keepLS hlw (keepLS hlw ‹_› (Nat.le_refl _) _) (Nat.le_refl _) _) (first | (go_at_call 98; (with_reducible show Calls _ _ _ (w5.drew) _); go_loud (refine (HCL.out w5.drew (Below.refl _ _).drew).mono ?_; rintro e w8 ⟨v8, rfl, o8, hb8⟩; obtain ⟨g, k8, c8, rfl, q1, q2, q3, -, q5, q6, -⟩ := o8.full (by rw [HT.out]; exact HNP.out); obtain rfl : k8 = n := (by rw [HT.out] at q1 q2; omega); have hk8 : Below w5.heap.size w5 w8 := (Below.refl w5.heap.size w5).drew.trans hb8; have hq8 : w5.heap.size ≤ w8.heap.size := hb8.size)) | (go_at_call 98; go_loud (refine (HCL.out _ (below1 _ _).drew).mono ?_; rintro e w8 ⟨v8, rfl, o8, hb8⟩; obtain ⟨g, k8, c8, rfl, q1, q2, q3, -, q5, q6, -⟩ := o8.full (by rw [HT.out]; exact HNP.out); obtain rfl : k8 = n := (by rw [HT.out] at q1 q2; omega); have hk8 : Below w5.heap.size w5 w8 := (below1 w5 _).drew.trans (hb8.mono (show w5.heap.size ≤ _ from size_alloc_le (Nat.le_refl _) _)); have hB8 := (Blk.new w5 _ _).drew.below hb8 (by show w5.heap.size < (w5.alloc _).heap.size; rw [World.size_alloc]; exact Nat.lt_succ_self _); obtain ⟨y0, y1, yf0, yf1⟩ := Blk.two hB8)))
   all_goals
    go_wp2
    go_meet
    first
     | exact ⟨_, g, c8, rfl, Blk.new w8 _ _, o8.alloc _, hq8, Nat.ne_of_gt q6, q5, hk8.alloc hq8 _⟩
     | exact ⟨_, g, c8, rfl, line_set hB8 _ _, own_set2 (by show w5.heap.size < (w5.alloc _).heap.size; rw [World.size_alloc]; exact Nat.lt_succ_self _) o8, Nat.le_refl _, Nat.ne_of_lt (Nat.lt_of_lt_of_le (by show w5.heap.size < (w5.alloc _).heap.size; rw [World.size_alloc]; exact Nat.lt_succ_self _) q5), Nat.le_trans (size_alloc_le (Nat.le_refl _) _) q5, line_bel hk8 (Nat.le_refl _)⟩
 obtain ⟨B, g, c8, rfl, hB1, o1, hB2, hBg, hg2, hb1⟩ := hcut
 have hZ1 := hZ.below hb1 (by omega)
 have hL1 := hLn.below hb1 (by omega)
 have hbz := hbw.trans (hb1.mono (by omega))
 clear l0 l1 d0 d1 d2 d3 d4 z0 z1 zf0 zf1 HCL
 obtain ⟨l0, l1, -, -⟩ := Blk.two hL1
 go_wp2
 go_loopw [14] (fun v wr => ∃ j : Nat, v = .int .i64 ((k + j : Nat) : Int) ∧ j ≤ min M (n - k) ∧ Blk wr B #[.slice (some ⟨g, 0, none⟩) n c8, .int .i64 pv] 131 ∧ Own 3 w5.heap.size wr (.slice (some ⟨g, 0, none⟩) n c8) (mapTo turnV t k j) ∧ Below w5.heap.size w5 wr) (fun v _ => K2 + n - (intOf v).toNat)
 case atStart => exact ⟨0, by simp, Nat.zero_le _, hB1, by rw [mapTo_zero]; exact o1, hb1⟩
 case round =>
  obtain ⟨j, rfl, hj, hBr, hown, hbr⟩ := hrel
  have hLr := hLn.below hbr (by omega)
  obtain ⟨l0, l1, -, -⟩ := Blk.two hLr
  obtain ⟨y0, y1, yf0, yf1⟩ := Blk.two hBr
  have hKM := HKK.out
  have hHT := HT.out
  by_cases hlt : k + j < K2 ∧ k + j < n
  ·have i3 : ((k + j : Nat) : Int) < (K2 : Int) := by omega
   have i4 : ((k + j : Nat) : Int) < (n : Int) := by omega
   obtain ⟨g0, gf0⟩ := hown.at0 hlt.2
   rw [mapTo_at (by omega)] at g0
   have hown2 := hown.setAt (k + j) (turnV (ix t (k + j)))
   rw [mapTo_set (by omega)] at hown2
   have HO2 := Lib.hid hown2
   have hBr2 : Blk (wr.setCell ⟨g, k + j, none⟩ (.int .i64 (turnV (ix t (k + j))))) B _ _ := hBr.other (a := ⟨g, k + j, none⟩) hBg _
   have HB2 := Lib.hid hBr2
   have HJ := Lib.hid (show j + 1 ≤ min M (n - k) by omega)
   have hJ2 : k + (j + 1) = (k + j) + 1 := by omega
   have HJ2 := Lib.hid hJ2
   clear hown2 hBr2 hJ2 hlt hKM hHT
   obtain ⟨q, hq⟩ : ∃ q, k + j = q := ⟨_, rfl⟩
   obtain ⟨z, hz⟩ : ∃ z, ix t q = z := ⟨_, rfl⟩
   rw [hq] at i3 i4 g0 gf0 HO2 HB2 HJ2 ⊢
   rw [hz] at g0 HO2 HB2
   clear hq
   go_upto_region 14 with fail
   go_region_law (first | (go_simp; go_at_call 197; refine (ref_turned _ _).mono ?_; rintro e w8 ⟨rfl, rfl⟩))
   all_goals
    go_simp
    go_wp2
    go_roundw
    case rel => exact ⟨j + 1, by rw [HJ2.out]; go_num, HJ.out, HB2.out, HO2.out, (hbr.setCell (p := ⟨g, q, none⟩) hg2 _).drew⟩
    case measure => simp [intOf]; omega
  ·obtain rfl : j = min M (n - k) := by omega
   have hZr := hZ.below hbr (by omega)
   obtain ⟨z0, z1, zf0, zf1⟩ := Blk.two hZr
   have hbf := hbw.trans (hbr.mono (by omega))
   have HO := Lib.hid hown
   rcases (show k + min M (n - k) = K2 ∨ (k + min M (n - k) < K2 ∧ k + min M (n - k) = n) by omega) with h3 | ⟨h3, h4⟩
   ·have x3 : ¬ ((K2 : Int) < (K2 : Int)) := by omega
    obtain ⟨q, hq⟩ : ∃ q, k + min M (n - k) = q := ⟨_, rfl⟩
    rw [hq] at h3 ⊢
    subst h3
    clear hq
    go_wp2
    exact bodyPost_ret (results_ctt Try.results147 rfl (line_loadVar (line_set hZr (.slice (some ⟨g, 0, none⟩) n c8) pv))) rfl ⟨some ⟨g, 0, none⟩, n, c8, by rw [HPV.out]; rfl, .inr (by rw [HMM.out]; exact ((HO.out.setCell (a := ⟨w.heap.size + 3, 0, none⟩) (by show w.heap.size + 3 < w5.heap.size; omega) _).setCell (a := ⟨w.heap.size + 3, 1, none⟩) (by show w.heap.size + 3 < w5.heap.size; omega) _).mono (by omega)), line_bel hbf (by omega)⟩
   ·obtain ⟨q, hq⟩ : ∃ q, k + min M (n - k) = q := ⟨_, rfl⟩
    rw [hq] at h3 h4 ⊢
    have x3 : (q : Int) < (K2 : Int) := by omega
    have x4 : ¬ ((q : Int) < (n : Int)) := by omega
    clear hq
    go_wp2
    exact bodyPost_ret (results_ctt Try.results147 rfl (line_loadVar (line_set hZr (.slice (some ⟨g, 0, none⟩) n c8) pv))) rfl ⟨some ⟨g, 0, none⟩, n, c8, by rw [HPV.out]; rfl, .inr (by rw [HMM.out]; exact ((HO.out.setCell (a := ⟨w.heap.size + 3, 0, none⟩) (by show w.heap.size + 3 < w5.heap.size; omega) _).setCell (a := ⟨w.heap.size + 3, 1, none⟩) (by show w.heap.size + 3 < w5.heap.size; omega) _).mono (by omega)), line_bel hbf (by omega)⟩
set_option maxRecDepth 100000 in
set_option maxHeartbeats 4000000 in
theorem sim_p (I : In) (hI : InOk I) (ca cb cc ce : Int) (h0 : 0 ≤ ca) (h1 : ca ≤ 999) (er p : Int) (O : List Int) (hP : ∀ (m : Nat), (m : Int) = max 1 ca → ∀ w1, Below I.w0.heap.size I.w0 w1 → Calls Try.prog 196 #[.agg #[.slice I.a I.n I.c, .int .i64 (I.k : Int)], .agg (rgA I.vs), .agg #[.int .i64 ca, .int .i64 cb, .int .i64 cc, .int .i64 112, .int .i64 ce], .int .i64 (m : Int)] w1 (PaPost I er p O w1)) :
  Calls Try.prog 147 #[.agg #[.slice I.a I.n I.c, .int .i64 (I.k : Int)], .agg (rgA I.vs), .agg #[.int .i64 ca, .int .i64 cb, .int .i64 cc, .int .i64 112, .int .i64 ce]] I.w0 (SimPost I (er) (0) (p) (O) I.w0) := by
 have HI := Lib.hid hI
 have hlv := hI.rgs.lv
 have htop := hI.top
 have hk1 := hI.k1
 have HT := Lib.hid (show I.t.length = I.n from hI.len)
 have HTi := Lib.hid hI.ints
 have HN0 := Lib.hid hI.none
 have hcap := hI.cap; have hcap2 := hI.cap2
 obtain ⟨M, hM, hM1, hM2⟩ : ∃ M : Nat, max 1 ca = (M : Int) ∧ 1 ≤ M ∧ M ≤ 999 := ⟨(max 1 ca).toNat, by omega, by omega, by omega⟩
 have HM := Lib.hid hM
 clear hI
 obtain ⟨w, a, n, c, t, k, vs, X⟩ := I
 dsimp only at *
 have hbx := boxes4 w #[.slice a n c, .int .i64 (k : Int)] #[.int .i64 ca, .int .i64 cb, .int .i64 cc, .int .i64 112, .int .i64 ce] #[.slice none 0 0, .int .i64 0] vs 131 133 80 131
 dsimp only at hbx
 go_enter Try.func147, Try.ntmps147
 go_upto_region 1 with fail
 generalize ((((w.alloc (.cells #[.slice a n c, .int .i64 (k : Int)] 131)).alloc (.cells (rgA vs) 133)).alloc (.cells #[.int .i64 ca, .int .i64 cb, .int .i64 cc, .int .i64 112, .int .i64 ce] 80)).alloc (.cells #[.slice none 0 0, .int .i64 0] 131)) = w4 at *
 obtain ⟨hLn, hRg, hCm, hZ, hbw, hsz⟩ := hbx
 obtain ⟨l0, l1, -, -⟩ := hLn.two
 obtain ⟨d0, d1, d2, d3, d4⟩ := Blk.five hCm
 have HMP := Lib.hid hM
 clear hM
 go_cut [9, 10] (fun u v wx => u = .int .i64 (M : Int) ∧ v = .int .i64 (n : Int) ∧ w4.drew = wx)
 case first =>
  rcases (show ca = 0 ∨ ca = 1 ∨ 2 ≤ ca by omega) with rfl | rfl | h3
  ·obtain rfl : M = 1 := by have := HM.out; omega
   go_region_held3 (fun w' => w'.cell? ⟨w.heap.size, 0, none⟩ = some (.slice a n c) ∧ w'.cell? ⟨w.heap.size + 2, 0, none⟩ = some (.int .i64 0)) (first | exact ⟨l0, d0⟩ | assumption) (fail)
   all_goals
    go_wp2
    go_meet
    exact ⟨rfl, rfl, rfl⟩
  ·obtain rfl : M = 1 := by have := HM.out; omega
   go_region_held3 (fun w' => w'.cell? ⟨w.heap.size, 0, none⟩ = some (.slice a n c) ∧ w'.cell? ⟨w.heap.size + 2, 0, none⟩ = some (.int .i64 1)) (first | exact ⟨l0, d0⟩ | assumption) (fail)
   all_goals
    go_wp2
    go_meet
    exact ⟨rfl, rfl, rfl⟩
  ·obtain rfl : ca = (M : Int) := by have := HM.out; omega
   go_region_held3 (fun w' => w'.cell? ⟨w.heap.size, 0, none⟩ = some (.slice a n c) ∧ w'.cell? ⟨w.heap.size + 2, 0, none⟩ = some (.int .i64 (M : Int))) (first | exact ⟨l0, d0⟩ | assumption) (fail)
   all_goals
    go_wp2
    go_meet
    exact ⟨rfl, rfl, rfl⟩
 obtain ⟨rfl, rfl, rfl⟩ := hcut
 replace hLn : Blk w4.drew _ _ _ := hLn
 replace hRg : BlkR w4.drew _ _ _ := hRg
 replace hCm : Blk w4.drew _ _ _ := hCm
 replace hZ : Blk w4.drew _ _ _ := hZ
 replace hbw : Below w.heap.size w w4.drew := hbw.drew
 replace hsz : w4.drew.heap.size = w.heap.size + 4 := hsz
 clear l0 l1 d0 d1 d2 d3 d4
 generalize w4.drew = w5 at *
 clear w4
 obtain ⟨l0, l1, -, -⟩ := Blk.two hLn
 obtain ⟨d0, d1, d2, d3, d4⟩ := Blk.five hCm
 obtain ⟨z0, z1, zf0, zf1⟩ := Blk.two hZ
 have HP := Lib.hid (hP M HM.out.symm)
 clear hP
 go_upto_region 6 with (first | (refine regs_load rfl _ rfl (w.heap.size + 1) rfl vs _ hRg hlv ?_) | (go_at_call 196; go_loud (refine (HP.out w5 hbw).mono ?_; rintro e w6 ⟨a6, n6, c6, rfl, hs6, hb6⟩; have hZ6 := hZ.below hb6 hZ.lt; have hb7 := hbw.trans (hb6.mono (by omega)); clear l0 l1 d0 d1 d2 d3 d4 z0 z1 zf0 zf1; obtain ⟨z0, z1, zf0, zf1⟩ := Blk.two hZ6; have hsz6 := hb6.size; have hG6 := Blk.new w6 #[.slice a6 n6 c6, .int .i64 p] 131)))
 have hZ9 := hZ6.alloc (.cells #[.slice a6 n6 c6, .int .i64 p] 131)
 have hb9 := hb7.alloc hb7.size (.cells #[.slice a6 n6 c6, .int .i64 p] 131)
 have hs9 := hs6.kept (below1 w6 (.cells #[.slice a6 n6 c6, .int .i64 p] 131))
 clear z0 z1 zf0 zf1 hZ6 hs6
 generalize (w6.alloc (.cells #[.slice a6 n6 c6, .int .i64 p] 131)) = w9 at *
 obtain ⟨y0, y1, yf0, yf1⟩ := Blk.two hG6
 obtain ⟨z0, z1, zf0, zf1⟩ := Blk.two hZ9
 go_wp2
 exact bodyPost_ret (results_ctt Try.results147 rfl (line_loadVar (line_set hZ9 (.slice a6 n6 c6) p))) rfl ⟨a6, n6, c6, rfl, ((hs9.other (by omega) _).other (by omega) _).mono (by omega), line_bel hb9 (by omega)⟩
set_option maxRecDepth 100000 in
set_option maxHeartbeats 4000000 in
theorem sim_P (I : In) (hI : InOk I) (ca cb cc ce : Int) (h0 : 0 ≤ ca) (h1 : ca ≤ 999) (er p : Int) (O : List Int) (hP : ∀ (m : Nat), (m : Int) = max 1 ca → ∀ w1, Below I.w0.heap.size I.w0 w1 → Calls Try.prog 196 #[.agg #[.slice I.a I.n I.c, .int .i64 (I.k : Int)], .agg (rgA I.vs), .agg #[.int .i64 ca, .int .i64 cb, .int .i64 cc, .int .i64 80, .int .i64 ce], .int .i64 (m : Int)] w1 (PaPost I er p O w1)) :
  Calls Try.prog 147 #[.agg #[.slice I.a I.n I.c, .int .i64 (I.k : Int)], .agg (rgA I.vs), .agg #[.int .i64 ca, .int .i64 cb, .int .i64 cc, .int .i64 80, .int .i64 ce]] I.w0 (SimPost I (er) (0) (p) (O) I.w0) := by
 have HI := Lib.hid hI
 have hlv := hI.rgs.lv
 have htop := hI.top
 have hk1 := hI.k1
 have HT := Lib.hid (show I.t.length = I.n from hI.len)
 have HTi := Lib.hid hI.ints
 have HN0 := Lib.hid hI.none
 have hcap := hI.cap; have hcap2 := hI.cap2
 obtain ⟨M, hM, hM1, hM2⟩ : ∃ M : Nat, max 1 ca = (M : Int) ∧ 1 ≤ M ∧ M ≤ 999 := ⟨(max 1 ca).toNat, by omega, by omega, by omega⟩
 have HM := Lib.hid hM
 clear hI
 obtain ⟨w, a, n, c, t, k, vs, X⟩ := I
 dsimp only at *
 have hbx := boxes4 w #[.slice a n c, .int .i64 (k : Int)] #[.int .i64 ca, .int .i64 cb, .int .i64 cc, .int .i64 80, .int .i64 ce] #[.slice none 0 0, .int .i64 0] vs 131 133 80 131
 dsimp only at hbx
 go_enter Try.func147, Try.ntmps147
 go_upto_region 1 with fail
 generalize ((((w.alloc (.cells #[.slice a n c, .int .i64 (k : Int)] 131)).alloc (.cells (rgA vs) 133)).alloc (.cells #[.int .i64 ca, .int .i64 cb, .int .i64 cc, .int .i64 80, .int .i64 ce] 80)).alloc (.cells #[.slice none 0 0, .int .i64 0] 131)) = w4 at *
 obtain ⟨hLn, hRg, hCm, hZ, hbw, hsz⟩ := hbx
 obtain ⟨l0, l1, -, -⟩ := hLn.two
 obtain ⟨d0, d1, d2, d3, d4⟩ := Blk.five hCm
 have HMP := Lib.hid hM
 clear hM
 go_cut [9, 10] (fun u v wx => u = .int .i64 (M : Int) ∧ v = .int .i64 (n : Int) ∧ w4.drew = wx)
 case first =>
  rcases (show ca = 0 ∨ ca = 1 ∨ 2 ≤ ca by omega) with rfl | rfl | h3
  ·obtain rfl : M = 1 := by have := HM.out; omega
   go_region_held3 (fun w' => w'.cell? ⟨w.heap.size, 0, none⟩ = some (.slice a n c) ∧ w'.cell? ⟨w.heap.size + 2, 0, none⟩ = some (.int .i64 0)) (first | exact ⟨l0, d0⟩ | assumption) (fail)
   all_goals
    go_wp2
    go_meet
    exact ⟨rfl, rfl, rfl⟩
  ·obtain rfl : M = 1 := by have := HM.out; omega
   go_region_held3 (fun w' => w'.cell? ⟨w.heap.size, 0, none⟩ = some (.slice a n c) ∧ w'.cell? ⟨w.heap.size + 2, 0, none⟩ = some (.int .i64 1)) (first | exact ⟨l0, d0⟩ | assumption) (fail)
   all_goals
    go_wp2
    go_meet
    exact ⟨rfl, rfl, rfl⟩
  ·obtain rfl : ca = (M : Int) := by have := HM.out; omega
   go_region_held3 (fun w' => w'.cell? ⟨w.heap.size, 0, none⟩ = some (.slice a n c) ∧ w'.cell? ⟨w.heap.size + 2, 0, none⟩ = some (.int .i64 (M : Int))) (first | exact ⟨l0, d0⟩ | assumption) (fail)
   all_goals
    go_wp2
    go_meet
    exact ⟨rfl, rfl, rfl⟩
 obtain ⟨rfl, rfl, rfl⟩ := hcut
 replace hLn : Blk w4.drew _ _ _ := hLn
 replace hRg : BlkR w4.drew _ _ _ := hRg
 replace hCm : Blk w4.drew _ _ _ := hCm
 replace hZ : Blk w4.drew _ _ _ := hZ
 replace hbw : Below w.heap.size w w4.drew := hbw.drew
 replace hsz : w4.drew.heap.size = w.heap.size + 4 := hsz
 clear l0 l1 d0 d1 d2 d3 d4
 generalize w4.drew = w5 at *
 clear w4
 obtain ⟨l0, l1, -, -⟩ := Blk.two hLn
 obtain ⟨d0, d1, d2, d3, d4⟩ := Blk.five hCm
 obtain ⟨z0, z1, zf0, zf1⟩ := Blk.two hZ
 have HP := Lib.hid (hP M HM.out.symm)
 clear hP
 go_upto_region 6 with (first | (refine regs_load rfl _ rfl (w.heap.size + 1) rfl vs _ hRg hlv ?_) | (go_at_call 196; go_loud (refine (HP.out w5 hbw).mono ?_; rintro e w6 ⟨a6, n6, c6, rfl, hs6, hb6⟩; have hZ6 := hZ.below hb6 hZ.lt; have hb7 := hbw.trans (hb6.mono (by omega)); clear l0 l1 d0 d1 d2 d3 d4 z0 z1 zf0 zf1; obtain ⟨z0, z1, zf0, zf1⟩ := Blk.two hZ6; have hsz6 := hb6.size; have hG6 := Blk.new w6 #[.slice a6 n6 c6, .int .i64 p] 131)))
 have hZ9 := hZ6.alloc (.cells #[.slice a6 n6 c6, .int .i64 p] 131)
 have hb9 := hb7.alloc hb7.size (.cells #[.slice a6 n6 c6, .int .i64 p] 131)
 have hs9 := hs6.kept (below1 w6 (.cells #[.slice a6 n6 c6, .int .i64 p] 131))
 clear z0 z1 zf0 zf1 hZ6 hs6
 generalize (w6.alloc (.cells #[.slice a6 n6 c6, .int .i64 p] 131)) = w9 at *
 obtain ⟨y0, y1, yf0, yf1⟩ := Blk.two hG6
 obtain ⟨z0, z1, zf0, zf1⟩ := Blk.two hZ9
 go_wp2
 exact bodyPost_ret (results_ctt Try.results147 rfl (line_loadVar (line_set hZ9 (.slice a6 n6 c6) p))) rfl ⟨a6, n6, c6, rfl, ((hs9.other (by omega) _).other (by omega) _).mono (by omega), line_bel hb9 (by omega)⟩
set_option maxRecDepth 100000 in
set_option maxHeartbeats 4000000 in
theorem sim_r (I : In) (hI : InOk I) (ca cb cc ce : Int) (h0 : 0 ≤ ca) (h1 : ca ≤ 999) (hn : (I.k : Int) + max 1 ca ≤ I.n) :
  Calls Try.prog 147 #[.agg #[.slice I.a I.n I.c, .int .i64 (I.k : Int)], .agg (rgA I.vs), .agg #[.int .i64 ca, .int .i64 cb, .int .i64 cc, .int .i64 114, .int .i64 ce]] I.w0 (SimPost I (0) (0) ((I.k : Int) + max 1 ca - 1) (mapTo (fun _ => ce) I.t I.k (max 1 ca).toNat) I.w0) := by
 have HI := Lib.hid hI
 have hlv := hI.rgs.lv
 have htop := hI.top
 have hk1 := hI.k1
 have HNP' := Lib.hid hn
 clear hn
 have HT := Lib.hid (show I.t.length = I.n from hI.len)
 have HTi := Lib.hid hI.ints
 have HN0 := Lib.hid hI.none
 have hcap := hI.cap; have hcap2 := hI.cap2
 obtain ⟨M, hM, hM1, hM2⟩ : ∃ M : Nat, max 1 ca = (M : Int) ∧ 1 ≤ M ∧ M ≤ 999 := ⟨(max 1 ca).toNat, by omega, by omega, by omega⟩
 have HM := Lib.hid hM
 clear hI
 obtain ⟨w, a, n, c, t, k, vs, X⟩ := I
 dsimp only at *
 have hbx := boxes4 w #[.slice a n c, .int .i64 (k : Int)] #[.int .i64 ca, .int .i64 cb, .int .i64 cc, .int .i64 114, .int .i64 ce] #[.slice none 0 0, .int .i64 0] vs 131 133 80 131
 dsimp only at hbx
 go_enter Try.func147, Try.ntmps147
 go_upto_region 1 with fail
 generalize ((((w.alloc (.cells #[.slice a n c, .int .i64 (k : Int)] 131)).alloc (.cells (rgA vs) 133)).alloc (.cells #[.int .i64 ca, .int .i64 cb, .int .i64 cc, .int .i64 114, .int .i64 ce] 80)).alloc (.cells #[.slice none 0 0, .int .i64 0] 131)) = w4 at *
 obtain ⟨hLn, hRg, hCm, hZ, hbw, hsz⟩ := hbx
 obtain ⟨l0, l1, -, -⟩ := hLn.two
 obtain ⟨d0, d1, d2, d3, d4⟩ := Blk.five hCm
 have HMP := Lib.hid hM
 clear hM
 go_cut [9, 10] (fun u v wx => u = .int .i64 (M : Int) ∧ v = .int .i64 (n : Int) ∧ w4.drew = wx)
 case first =>
  rcases (show ca = 0 ∨ ca = 1 ∨ 2 ≤ ca by omega) with rfl | rfl | h3
  ·obtain rfl : M = 1 := by have := HM.out; omega
   go_region_held3 (fun w' => w'.cell? ⟨w.heap.size, 0, none⟩ = some (.slice a n c) ∧ w'.cell? ⟨w.heap.size + 2, 0, none⟩ = some (.int .i64 0)) (first | exact ⟨l0, d0⟩ | assumption) (fail)
   all_goals
    go_wp2
    go_meet
    exact ⟨rfl, rfl, rfl⟩
  ·obtain rfl : M = 1 := by have := HM.out; omega
   go_region_held3 (fun w' => w'.cell? ⟨w.heap.size, 0, none⟩ = some (.slice a n c) ∧ w'.cell? ⟨w.heap.size + 2, 0, none⟩ = some (.int .i64 1)) (first | exact ⟨l0, d0⟩ | assumption) (fail)
   all_goals
    go_wp2
    go_meet
    exact ⟨rfl, rfl, rfl⟩
  ·obtain rfl : ca = (M : Int) := by have := HM.out; omega
   go_region_held3 (fun w' => w'.cell? ⟨w.heap.size, 0, none⟩ = some (.slice a n c) ∧ w'.cell? ⟨w.heap.size + 2, 0, none⟩ = some (.int .i64 (M : Int))) (first | exact ⟨l0, d0⟩ | assumption) (fail)
   all_goals
    go_wp2
    go_meet
    exact ⟨rfl, rfl, rfl⟩
 obtain ⟨rfl, rfl, rfl⟩ := hcut
 replace hLn : Blk w4.drew _ _ _ := hLn
 replace hRg : BlkR w4.drew _ _ _ := hRg
 replace hCm : Blk w4.drew _ _ _ := hCm
 replace hZ : Blk w4.drew _ _ _ := hZ
 replace hbw : Below w.heap.size w w4.drew := hbw.drew
 replace hsz : w4.drew.heap.size = w.heap.size + 4 := hsz
 clear l0 l1 d0 d1 d2 d3 d4
 generalize w4.drew = w5 at *
 clear w4
 obtain ⟨l0, l1, -, -⟩ := Blk.two hLn
 obtain ⟨d0, d1, d2, d3, d4⟩ := Blk.five hCm
 obtain ⟨z0, z1, zf0, zf1⟩ := Blk.two hZ
 have hn' : k + M ≤ n := by have := HNP'.out; rw [HM.out] at this; omega
 have HNP := Lib.hid (show 0 < n by omega)
 obtain ⟨K2, hK2⟩ : ∃ K2, k + M = K2 := ⟨_, rfl⟩
 have iw1 : IntKind.i64.wrap ((k : Int) + (M : Int)) = (K2 : Int) := by rw [← hK2]; rw [IntKind.wrap_i64]; omega
 obtain ⟨pv, hpv⟩ : ∃ pv : Int, (K2 : Int) - 1 = pv := ⟨_, rfl⟩
 have iw2 : IntKind.i64.wrap ((K2 : Int) - 1) = pv := by rw [← hpv]; rw [IntKind.wrap_i64]; omega
 have HPV := Lib.hid (show (k : Int) + max 1 ca - 1 = pv by rw [HM.out, ← hpv]; omega)
 have HMM := Lib.hid (show (max 1 ca).toNat = M by rw [HM.out]; rfl)
 have HKK := Lib.hid hK2
 have x0 : ¬ ((n : Int) < (K2 : Int)) := by omega
 have hTi := HTi.out.below hbw
 have HCL := Lib.hid (fun (wx : World) (hb : Below w5.heap.size w5 wx) => slices_clone a n c t wx (hTi.below hb) HT.out (by omega) HN0.out)
 have hlw : w.heap.size < w5.heap.size := by omega
 have hlw4 : w.heap.size + 4 ≤ w5.heap.size := by omega
 clear hpv hn' hsz
 go_upto_region 19 with fail
 go_cut [15] (fun v wx => ∃ B g c8, v = .pointer (some ⟨B, 0, none⟩) ∧ Blk wx B #[.slice (some ⟨g, 0, none⟩) n c8, .int .i64 pv] 131 ∧ Own 3 w5.heap.size wx (.slice (some ⟨g, 0, none⟩) n c8) t ∧ w5.heap.size ≤ B ∧ B ≠ g ∧ w5.heap.size ≤ g ∧ Below w5.heap.size w5 wx)
 case first =>
  go_region_held3 (fun w' => w'.cell? ⟨w.heap.size, 0, none⟩ = some (.slice a n c) ∧ w'.cell? ⟨w.heap.size, 1, none⟩ = some (.int .i64 (k : Int)) ∧ Below w5.heap.size w5 w') (first | exact ⟨l0, l1, (Below.refl _ _).drew⟩ | (with_reducible assumption) | exact keepL hlw ⟨l0, l1, Below.refl _ _⟩ hk8 | exact keepL hlw ⟨l0, l1, Below.refl _ _⟩ (hk8.alloc hq8 _) | exact keepLA hlw ‹_› _ | exact keepLS hlw (keepLS hlw ‹_› hq8 _) hq8 _ | exact keepLS hlw (keepLS hlw ‹_› (Nat.le_refl _) _) (Nat.le_refl _) _) (first | (go_at_call 98; (with_reducible show Calls _ _ _ (w5.drew) _); go_loud (refine (HCL.out w5.drew (Below.refl _ _).drew).mono ?_; rintro e w8 ⟨v8, rfl, o8, hb8⟩; obtain ⟨g, k8, c8, rfl, q1, q2, q3, -, q5, q6, -⟩ := o8.full (by rw [HT.out]; exact HNP.out); obtain rfl : k8 = n := (by rw [HT.out] at q1 q2; omega); have hk8 : Below w5.heap.size w5 w8 := (Below.refl w5.heap.size w5).drew.trans hb8; have hq8 : w5.heap.size ≤ w8.heap.size := hb8.size)) | (go_at_call 98; go_loud (refine (HCL.out _ (below1 _ _).drew).mono ?_; rintro e w8 ⟨v8, rfl, o8, hb8⟩; obtain ⟨g, k8, c8, rfl, q1, q2, q3, -, q5, q6, -⟩ := o8.full (by rw [HT.out]; exact HNP.out); obtain rfl : k8 = n := (by rw [HT.out] at q1 q2; omega); have hk8 : Below w5.heap.size w5 w8 := (below1 w5 _).drew.trans (hb8.mono (show w5.heap.size ≤ _ from size_alloc_le (Nat.le_refl _) _)); have hB8 := (Blk.new w5 _ _).drew.below hb8 (by show w5.heap.size < (w5.alloc _).heap.size; rw [World.size_alloc]; exact Nat.lt_succ_self _); obtain ⟨y0, y1, yf0, yf1⟩ := Blk.two hB8)))
  all_goals
   go_wp2
   go_meet
   first
    | exact ⟨_, g, c8, rfl, Blk.new w8 _ _, o8.alloc _, hq8, Nat.ne_of_gt q6, q5, hk8.alloc hq8 _⟩
    | exact ⟨_, g, c8, rfl, line_set hB8 _ _, own_set2 (by show w5.heap.size < (w5.alloc _).heap.size; rw [World.size_alloc]; exact Nat.lt_succ_self _) o8, Nat.le_refl _, Nat.ne_of_lt (Nat.lt_of_lt_of_le (by show w5.heap.size < (w5.alloc _).heap.size; rw [World.size_alloc]; exact Nat.lt_succ_self _) q5), Nat.le_trans (size_alloc_le (Nat.le_refl _) _) q5, line_bel hk8 (Nat.le_refl _)⟩
 obtain ⟨B, g, c8, rfl, hB1, o1, hB2, hBg, hg2, hb1⟩ := hcut
 clear l0 l1 d0 d1 d2 d3 d4 z0 z1 zf0 zf1 HCL
 go_wp2
 go_loopw [102] (fun v wr => ∃ j : Nat, v = .int .i64 (j : Int) ∧ j ≤ M ∧ Blk wr B #[.slice (some ⟨g, 0, none⟩) n c8, .int .i64 pv] 131 ∧ Own 3 w5.heap.size wr (.slice (some ⟨g, 0, none⟩) n c8) (mapTo (fun _ => ce) t k j) ∧ Below w5.heap.size w5 wr) (fun v _ => M - (intOf v).toNat)
 case atStart => exact ⟨0, by simp, Nat.zero_le _, hB1, by rw [mapTo_zero]; exact o1, hb1⟩
 case round =>
  obtain ⟨j, rfl, hj, hBr, hown, hbr⟩ := hrel
  have hLr := hLn.below hbr (by omega)
  obtain ⟨l0, l1, -, -⟩ := Blk.two hLr
  obtain ⟨d0, d1, d2, d3, d4⟩ := Blk.five (hCm.below hbr (by omega))
  obtain ⟨y0, y1, yf0, yf1⟩ := Blk.two hBr
  have hKM := HKK.out
  have hHT := HT.out
  by_cases hlt : j < M
  ·have hkn : k + j < n := by have := HNP'.out; rw [HM.out] at this; omega
   obtain ⟨g0, gf0⟩ := hown.at0 hkn
   rw [mapTo_at (by omega)] at g0
   have hown2 := hown.setAt (k + j) ce
   rw [mapTo_set (f := fun _ => ce) (show k + j < t.length by omega)] at hown2
   have HO2 := Lib.hid hown2
   have hBr2 : Blk (wr.setCell ⟨g, k + j, none⟩ (.int .i64 ce)) B _ _ := hBr.other (a := ⟨g, k + j, none⟩) hBg _
   have HB2 := Lib.hid hBr2
   have i3 : (j : Int) < (M : Int) := by omega
   have iw4 : IntKind.i64.wrap ((k : Int) + (j : Int)) = ((k + j : Nat) : Int) := by rw [IntKind.wrap_i64]; omega
   clear hown2 hBr2 hKM hHT
   go_wp2
   go_roundw
   case rel => exact ⟨j + 1, by go_num, by omega, HB2.out, HO2.out, hbr.setCell (p := ⟨g, k + j, none⟩) hg2 _⟩
   case measure => simp [intOf]; omega
  ·obtain rfl : j = M := by omega
   have hZr := hZ.below hbr (by omega)
   obtain ⟨z0, z1, zf0, zf1⟩ := Blk.two hZr
   have hbf := hbw.trans (hbr.mono (by omega))
   have HO := Lib.hid hown
   clear hKM hHT hown
   go_wp2
   exact bodyPost_ret (results_ctt Try.results147 rfl (line_loadVar (line_set hZr (.slice (some ⟨g, 0, none⟩) n c8) pv))) rfl ⟨some ⟨g, 0, none⟩, n, c8, by rw [HPV.out]; rfl, .inr (by rw [HMM.out]; exact ((HO.out.setCell (a := ⟨w.heap.size + 3, 0, none⟩) (by show w.heap.size + 3 < w5.heap.size; omega) _).setCell (a := ⟨w.heap.size + 3, 1, none⟩) (by show w.heap.size + 3 < w5.heap.size; omega) _).mono (by omega)), line_bel hbf (by omega)⟩
theorem InOk.at {I : In} (hI : InOk I) {w : World} (hb : Below I.w0.heap.size I.w0 w) : InOk { I with w0 := w } :=
  { hI with ints := hI.ints.below hb, rgs := hI.rgs.below hb }
theorem PaPost.at {I : In} {w1 : World} {er p : Int} {O : List Int} {w : World} {e : Ending} {w' : World} (h : PaPost { I with w0 := w1 } er p O w e w') : PaPost I er p O w e w' := h
theorem ref_pasted (I : In) (hI : InOk I) (cm : C5) (i : Nat) (hi : (cm.d = 112 ∧ 0 < I.n ∧ i = I.k + 1) ∨ (cm.d = 112 ∧ I.n = 0 ∧ i = I.k) ∨ (cm.d ≠ 112 ∧ i = I.k)) (hin : i ≤ I.n) (m : Nat) (hm : (m : Int) = max 1 cm.a) (h1 : cm.a ≤ 999) (s : St) (hs : s.cm = cm) :
  ∃ p O, ((psS I s i).1 = 0 → (psS I s i).2 = { s with O := O, p := p, es := btF I.t O }) ∧ ∀ w1, Below I.w0.heap.size I.w0 w1 → Calls Try.prog 196 #[.agg #[.slice I.a I.n I.c, .int .i64 (I.k : Int)], .agg (rgA I.vs), .agg #[.int .i64 cm.a, .int .i64 cm.b, .int .i64 cm.c, .int .i64 cm.d, .int .i64 cm.e], .int .i64 (m : Int)] w1 (PaPost I (psS I s i).1 p O w1) := by
 have hm2 : m ≤ 999 := by omega
 by_cases hE : getEs I.X cm.b = 0
 ·by_cases hL : (200 : Int) < (I.n : Int) + (m : Int) * ((getYs I.X cm.b).length : Int)
  ·have e : psS I s i = (2, s) := by rw [psS, hs, if_neg (by rw [hE]; simp), ← hm, if_pos hL]
   rw [e]
   exact ⟨(I.k : Int), I.t, fun h => absurd h (by simp), fun w1 hb => (pa_large { I with w0 := w1 } (hI.at hb) cm m hm2 hE hL)⟩
  ·have e : psS I s i = (0, { putS I s i i (repS (getYs I.X cm.b) m) with p := (i : Int) + (m : Int) * ((getYs I.X cm.b).length : Int) - 1 }) := by
    rw [psS, hs, if_neg (by rw [hE]; simp), ← hm, if_neg hL, Int.toNat_natCast]
   rw [e]
   exact ⟨(i : Int) + (m : Int) * ((getYs I.X cm.b).length : Int) - 1, I.t.take i ++ repS (getYs I.X cm.b) m ++ I.t.drop i, fun _ => rfl, fun w1 hb => (pa_ok { I with w0 := w1 } (hI.at hb) cm m hm2 hE (Int.not_lt.1 hL) i hi hin)⟩
 ·have e : psS I s i = (getEs I.X cm.b, s) := by rw [psS, hs, if_pos hE]
  rw [e]
  exact ⟨(I.k : Int), I.t, fun h => absurd h hE, fun w1 hb => (pa_err { I with w0 := w1 } (hI.at hb) cm m hm2 hE)⟩
theorem ref_simple (I : In) (hI : InOk I) (cm : C5) (h0 : 0 ≤ cm.a) (h1 : cm.a ≤ 999) (s : St) (hs : s.cm = cm) (hO : s.O = I.t) (hp : s.p = I.k) (hmd : s.md = 0) :
  ∃ md p O, ((plS I s).1 = 0 → (plS I s).2.md = md ∧ (plS I s).2.p = p ∧ (plS I s).2.O = O ∧ (plS I s).2.Y = s.Y ∧ (plS I s).2.fk = s.fk ∧ (plS I s).2.fa = s.fa ∧ ((plS I s).2.es = btF I.t O ∨ ((plS I s).2.es = s.es ∧ O = I.t))) ∧
   ∀ w1, Below I.w0.heap.size I.w0 w1 → Calls Try.prog 147 #[.agg #[.slice I.a I.n I.c, .int .i64 (I.k : Int)], .agg (rgA I.vs), .agg #[.int .i64 cm.a, .int .i64 cm.b, .int .i64 cm.c, .int .i64 cm.d, .int .i64 cm.e]] w1 (SimPost I (plS I s).1 md p O w1) := by
 obtain ⟨ca, cb, cc, cd, ce⟩ := cm
 dsimp only at h0 h1 ⊢
 have e1 : s.cm.d = cd := by rw [hs]
 have e2 : s.cm.a = ca := by rw [hs]
 have e3 : s.cm.e = ce := by rw [hs]
 have hk := hI.k1
 by_cases d1 : cd = 112
 ·subst d1
  have e : plS I s = psS I s (min (I.k + 1) I.n) := by rw [plS, e1, if_pos rfl]
  rw [e]
  obtain ⟨p, O, hx, hc⟩ := ref_pasted I hI ⟨ca, cb, cc, 112, ce⟩ (min (I.k + 1) I.n) (by dsimp only; omega) (by omega) (max 1 ca).toNat (by dsimp only; omega) h1 s hs
  exact ⟨0, p, O, fun hz => by rw [hx hz]; exact ⟨hmd, rfl, rfl, rfl, rfl, rfl, .inl rfl⟩, fun w1 hb1 => sim_p { I with w0 := w1 } (hI.at hb1) ca cb cc ce h0 h1 _ p O (fun m hm w2 hb => (show m = (max 1 ca).toNat by omega) ▸ hc w2 (hb1.trans (hb.mono hb1.size)))⟩
 by_cases d2 : cd = 80
 ·subst d2
  have e : plS I s = psS I s I.k := by rw [plS, e1, if_neg d1, if_pos rfl]
  rw [e]
  obtain ⟨p, O, hx, hc⟩ := ref_pasted I hI ⟨ca, cb, cc, 80, ce⟩ I.k (by dsimp only; omega) (by omega) (max 1 ca).toNat (by dsimp only; omega) h1 s hs
  exact ⟨0, p, O, fun hz => by rw [hx hz]; exact ⟨hmd, rfl, rfl, rfl, rfl, rfl, .inl rfl⟩, fun w1 hb1 => sim_P { I with w0 := w1 } (hI.at hb1) ca cb cc ce h0 h1 _ p O (fun m hm w2 hb => (show m = (max 1 ca).toNat by omega) ▸ hc w2 (hb1.trans (hb.mono hb1.size)))⟩
 by_cases d3 : cd = 126
 ·subst d3
  by_cases hn : I.n = 0
  ·have e : plS I s = (5, s) := by rw [plS, e1, if_neg d1, if_neg d2, if_pos rfl, if_pos hn]
   rw [e]
   exact ⟨0, (I.k : Int), I.t, fun h => absurd h (by simp), fun w1 hb1 => sim_t0 { I with w0 := w1 } (hI.at hb1) ca cb cc ce h0 h1 hn⟩
  ·have e : plS I s = (0, { chS I s (min (max 1 ca).toNat (I.n - I.k)) turnV with p := min ((I.k : Int) + max 1 ca) (I.n - 1) }) := by rw [plS, e1, e2, if_neg d1, if_neg d2, if_pos rfl, if_neg hn]
   rw [e]
   exact ⟨0, min ((I.k : Int) + max 1 ca) ((I.n : Int) - 1), mapTo turnV I.t I.k (min (max 1 ca).toNat (I.n - I.k)), fun _ => ⟨hmd, rfl, rfl, rfl, rfl, rfl, .inl rfl⟩, fun w1 hb1 => sim_t { I with w0 := w1 } (hI.at hb1) ca cb cc ce h0 h1 (by dsimp only; omega)⟩
 by_cases d4 : cd = 114
 ·subst d4
  by_cases hn : (I.n : Int) < I.k + max 1 ca
  ·have e : plS I s = (5, s) := by rw [plS, e1, e2, if_neg d1, if_neg d2, if_neg d3, if_pos rfl, if_pos hn]
   rw [e]
   exact ⟨0, (I.k : Int), I.t, fun h => absurd h (by simp), fun w1 hb1 => sim_r0 { I with w0 := w1 } (hI.at hb1) ca cb cc ce h0 h1 hn⟩
  ·have e : plS I s = (0, { chS I s (max 1 ca).toNat (fun _ => ce) with p := (I.k : Int) + max 1 ca - 1 }) := by rw [plS, e1, e2, e3, if_neg d1, if_neg d2, if_neg d3, if_pos rfl, if_neg hn]
   rw [e]
   exact ⟨0, (I.k : Int) + max 1 ca - 1, mapTo (fun _ => ce) I.t I.k (max 1 ca).toNat, fun _ => ⟨hmd, rfl, rfl, rfl, rfl, rfl, .inl rfl⟩, fun w1 hb1 => sim_r { I with w0 := w1 } (hI.at hb1) ca cb cc ce h0 h1 (by dsimp only; omega)⟩
 by_cases d5 : cd = 105
 ·subst d5
  have e : plS I s = (0, { s with md := 1 }) := by rw [plS, e1, if_neg d1, if_neg d2, if_neg d3, if_neg d4, if_pos rfl]
  rw [e]
  exact ⟨1, (I.k : Int), I.t, fun _ => ⟨rfl, hp, hO, rfl, rfl, rfl, .inr ⟨rfl, rfl⟩⟩, fun w1 hb1 => sim_i { I with w0 := w1 } (hI.at hb1) ca cb cc ce h0 h1⟩
 by_cases d6 : cd = 73
 ·subst d6
  have e : plS I s = (0, { s with md := 1, p := firstF I.t }) := by rw [plS, e1, if_neg d1, if_neg d2, if_neg d3, if_neg d4, if_neg d5, if_pos rfl]
  rw [e]
  exact ⟨1, firstF I.t, I.t, fun _ => ⟨rfl, rfl, hO, rfl, rfl, rfl, .inr ⟨rfl, rfl⟩⟩, fun w1 hb1 => sim_I { I with w0 := w1 } (hI.at hb1) ca cb cc ce h0 h1⟩
 by_cases d7 : cd = 97
 ·subst d7
  have e : plS I s = (0, { s with md := 1, p := min ((I.k : Int) + 1) I.n }) := by rw [plS, e1, if_neg d1, if_neg d2, if_neg d3, if_neg d4, if_neg d5, if_neg d6, if_pos rfl]
  rw [e]
  exact ⟨1, min ((I.k : Int) + 1) I.n, I.t, fun _ => ⟨rfl, rfl, hO, rfl, rfl, rfl, .inr ⟨rfl, rfl⟩⟩, fun w1 hb1 => sim_a { I with w0 := w1 } (hI.at hb1) ca cb cc ce h0 h1⟩
 by_cases d8 : cd = 65
 ·subst d8
  have e : plS I s = (0, { s with md := 1, p := (I.n : Int) }) := by rw [plS, e1, if_neg d1, if_neg d2, if_neg d3, if_neg d4, if_neg d5, if_neg d6, if_neg d7, if_pos rfl]
  rw [e]
  exact ⟨1, (I.n : Int), I.t, fun _ => ⟨rfl, rfl, hO, rfl, rfl, rfl, .inr ⟨rfl, rfl⟩⟩, fun w1 hb1 => sim_A { I with w0 := w1 } (hI.at hb1) ca cb cc ce h0 h1⟩
 by_cases d9 : cd = 82
 ·subst d9
  have e : plS I s = (0, { s with md := 2 }) := by rw [plS, e1, if_neg d1, if_neg d2, if_neg d3, if_neg d4, if_neg d5, if_neg d6, if_neg d7, if_neg d8, if_pos rfl]
  rw [e]
  exact ⟨2, (I.k : Int), I.t, fun _ => ⟨rfl, hp, hO, rfl, rfl, rfl, .inr ⟨rfl, rfl⟩⟩, fun w1 hb1 => sim_R { I with w0 := w1 } (hI.at hb1) ca cb cc ce h0 h1⟩
 have e : plS I s = (9, s) := by rw [plS, e1, if_neg d1, if_neg d2, if_neg d3, if_neg d4, if_neg d5, if_neg d6, if_neg d7, if_neg d8, if_neg d9]
 rw [e]
 exact ⟨0, (I.k : Int), I.t, fun h => absurd h (by simp), fun w1 hb1 => sim_no { I with w0 := w1 } (hI.at hb1) ca cb cc ce h0 h1 cd ⟨d1, d2, d3, d4, d5, d6, d7, d8, d9⟩⟩
def ResPost (I : In) (er : Int) (s : St) (w : World) (e : Ending) (w' : World) : Prop := ∃ rs, e = .returned (.tuple #[.agg (rgA rs), .int .i64 er]) ∧ RsQ I w.heap.size w' rs s ∧ Below w.heap.size w w'
set_option maxRecDepth 100000 in
set_option maxHeartbeats 4000000 in
theorem opd_key (I : In) (a : Option Addr) (n c : Nat) (k fk fa : Int) (vs : List Value) (cm : C5) (w : World) (he : cm.d ≠ cm.c) (hi : iaB cm.d = false) (hm : motB cm.d = false) :
  Calls Try.prog 143 #[.agg #[.slice a n c, .int .i64 k], .agg (rgA vs), .agg #[.int .i64 fk, .int .i64 fa], .agg #[.int .i64 cm.a, .int .i64 cm.b, .int .i64 cm.c, .int .i64 cm.d, .int .i64 cm.e]] w (ResPost I 9 (zSt cm) w) := by
 have x1 : (cm.d == cm.c) = false := by simpa using he
 have hin := hi; have hmo := hm
 clear he hi hm
 have hbx := boxes5 w #[.slice a n c, .int .i64 k] #[.int .i64 fk, .int .i64 fa] #[.int .i64 cm.a, .int .i64 cm.b, .int .i64 cm.c, .int .i64 cm.d, .int .i64 cm.e] vs zero33 131 133 135 80 138
 dsimp only at hbx
 rw [show rgA zero33 = #[.slice none 0 0, .int .i64 0, .slice none 0 0, .slice none 0 0, .slice none 0 0, .slice none 0 0, .slice none 0 0, .slice none 0 0, .slice none 0 0, .slice none 0 0, .slice none 0 0, .slice none 0 0, .slice none 0 0, .slice none 0 0, .slice none 0 0, .slice none 0 0, .slice none 0 0, .slice none 0 0, .slice none 0 0, .slice none 0 0, .slice none 0 0, .slice none 0 0, .slice none 0 0, .slice none 0 0, .slice none 0 0, .slice none 0 0, .slice none 0 0, .slice none 0 0, .slice none 0 0, .int .i64 0, .int .i64 0, .int .i64 0, .slice none 0 0] from rfl] at hbx
 go_enter Try.func143, Try.ntmps143
 go_upto_region 1 with fail
 generalize (((((w.alloc (.cells #[.slice a n c, .int .i64 k] 131)).alloc (.cells (rgA vs) 133)).alloc (.cells #[.int .i64 fk, .int .i64 fa] 135)).alloc (.cells #[.int .i64 cm.a, .int .i64 cm.b, .int .i64 cm.c, .int .i64 cm.d, .int .i64 cm.e] 80)).alloc (.cells #[.slice none 0 0, .int .i64 0, .slice none 0 0, .slice none 0 0, .slice none 0 0, .slice none 0 0, .slice none 0 0, .slice none 0 0, .slice none 0 0, .slice none 0 0, .slice none 0 0, .slice none 0 0, .slice none 0 0, .slice none 0 0, .slice none 0 0, .slice none 0 0, .slice none 0 0, .slice none 0 0, .slice none 0 0, .slice none 0 0, .slice none 0 0, .slice none 0 0, .slice none 0 0, .slice none 0 0, .slice none 0 0, .slice none 0 0, .slice none 0 0, .slice none 0 0, .slice none 0 0, .int .i64 0, .int .i64 0, .int .i64 0, .slice none 0 0] 138)) = w5 at *
 obtain ⟨hLn, hRg, hFd, hCm, hZ, hbw, hsz⟩ := hbx
 obtain ⟨l0, l1, -, -⟩ := hLn.two
 obtain ⟨d0, d1, d2, d3, d4⟩ := Blk.five hCm
 go_wp2_with (first | (go_at_call 121; go_loud (refine (ref_in cm.d ⟨#[105, 97]⟩ (by decide) _).mono ?_; rintro e w2 ⟨rfl, hb2⟩; rw [in_ia, hin]; have hC2 := hCm.below hb2 hCm.lt; have hZ2 := hZ.below hb2 hZ.lt; have hB2 := hbw.trans (hb2.mono (by omega)); clear d0 d1 d2 d3 d4; obtain ⟨d0, d1, d2, d3, d4⟩ := Blk.five hC2)) | (go_at_call 144; go_loud (refine (ref_isMotion cm.d _).mono ?_; rintro e w3 ⟨rfl, hb3⟩; rw [hmo]; have hZ3 := hZ2.below hb3 hZ2.lt; have HB3 := Lib.hid (hB2.trans (hb3.mono hB2.size)); have hC3 := hC2.below hb3 hC2.lt; clear d0 d1 d2 d3 d4; obtain ⟨d0, d1, d2, d3, d4⟩ := Blk.five hC3)) | ((with_reducible show wpList _ _ _ (⟨none, Op.store _ _ _, _, _, _, _⟩ :: _) _ _); go_loud (refine res_store rfl _ _ rfl (w.heap.size + 4) 0 rfl zero33 rfl zero33 _ hZ3 (Nat.le_refl 33) rfl one_zero33 ?_; have hz9 := zero_store hZ3 zero33_len HB3.out (by omega) zero33 rfl; generalize w3.setCells (w.heap.size + 4) 0 zero33 = w9 at hz9 ⊢)))
 exact bodyPost_ret (results_ct Try.results143 rfl (res_loadVar hz9.1 zero33_len)) rfl ⟨zero33, rfl, (rsI_zero w.heap.size _ cm).rsQ I, hz9.2⟩
set_option maxRecDepth 100000 in
set_option maxHeartbeats 4000000 in
theorem opd_span (I : In) (a : Option Addr) (n c : Nat) (k fk fa : Int) (vs : List Value) (cm : C5) (w : World) (hk : cm.d = cm.c ∨ (cm.d ≠ cm.c ∧ iaB cm.d = true) ∨ (cm.d ≠ cm.c ∧ iaB cm.d = false ∧ motB cm.d = true)) (f g er : Int) (hS : ∀ w1, Below w.heap.size w w1 → Calls Try.prog 184 #[.agg #[.slice a n c, .int .i64 k], .agg #[.int .i64 fk, .int .i64 fa], .agg #[.int .i64 cm.a, .int .i64 cm.b, .int .i64 cm.c, .int .i64 cm.d, .int .i64 cm.e]] w1 (SpPost f g er w1)) (h0 : er ≠ 0) :
  Calls Try.prog 143 #[.agg #[.slice a n c, .int .i64 k], .agg (rgA vs), .agg #[.int .i64 fk, .int .i64 fa], .agg #[.int .i64 cm.a, .int .i64 cm.b, .int .i64 cm.c, .int .i64 cm.d, .int .i64 cm.e]] w (ResPost I er (zSt cm) w) := by
 have n0 : (er != 0) = true := by simpa using h0
 have CS := Lib.hid hS
 have HK := Lib.hid hk
 clear hS hk h0
 have hbx := boxes5 w #[.slice a n c, .int .i64 k] #[.int .i64 fk, .int .i64 fa] #[.int .i64 cm.a, .int .i64 cm.b, .int .i64 cm.c, .int .i64 cm.d, .int .i64 cm.e] vs zero33 131 133 135 80 138
 dsimp only at hbx
 rw [show rgA zero33 = #[.slice none 0 0, .int .i64 0, .slice none 0 0, .slice none 0 0, .slice none 0 0, .slice none 0 0, .slice none 0 0, .slice none 0 0, .slice none 0 0, .slice none 0 0, .slice none 0 0, .slice none 0 0, .slice none 0 0, .slice none 0 0, .slice none 0 0, .slice none 0 0, .slice none 0 0, .slice none 0 0, .slice none 0 0, .slice none 0 0, .slice none 0 0, .slice none 0 0, .slice none 0 0, .slice none 0 0, .slice none 0 0, .slice none 0 0, .slice none 0 0, .slice none 0 0, .slice none 0 0, .int .i64 0, .int .i64 0, .int .i64 0, .slice none 0 0] from rfl] at hbx
 go_enter Try.func143, Try.ntmps143
 go_upto_region 1 with fail
 generalize (((((w.alloc (.cells #[.slice a n c, .int .i64 k] 131)).alloc (.cells (rgA vs) 133)).alloc (.cells #[.int .i64 fk, .int .i64 fa] 135)).alloc (.cells #[.int .i64 cm.a, .int .i64 cm.b, .int .i64 cm.c, .int .i64 cm.d, .int .i64 cm.e] 80)).alloc (.cells #[.slice none 0 0, .int .i64 0, .slice none 0 0, .slice none 0 0, .slice none 0 0, .slice none 0 0, .slice none 0 0, .slice none 0 0, .slice none 0 0, .slice none 0 0, .slice none 0 0, .slice none 0 0, .slice none 0 0, .slice none 0 0, .slice none 0 0, .slice none 0 0, .slice none 0 0, .slice none 0 0, .slice none 0 0, .slice none 0 0, .slice none 0 0, .slice none 0 0, .slice none 0 0, .slice none 0 0, .slice none 0 0, .slice none 0 0, .slice none 0 0, .slice none 0 0, .slice none 0 0, .int .i64 0, .int .i64 0, .int .i64 0, .slice none 0 0] 138)) = w5 at *
 obtain ⟨hLn, hRg, hFd, hCm, hZ, hbw, hsz⟩ := hbx
 obtain ⟨l0, l1, -, -⟩ := hLn.two
 obtain ⟨d0, d1, d2, d3, d4⟩ := Blk.five hCm
 go_upto_region 1 with fail
 go_cut [10] (fun v wx => v = .bool true ∧ Below w5.heap.size w5 wx)
 case first =>
  rcases HK.out with h1 | ⟨h1, h2⟩ | ⟨h1, h2, h3⟩
  ·have x1 : (cm.d == cm.c) = true := by simpa using h1
   clear h1
   go_wp2
   go_meet
   exact ⟨rfl, Below.refl _ _⟩
  ·have x1 : (cm.d == cm.c) = false := by simpa using h1
   have hin := h2
   clear h1 h2
   go_wp2_with (go_at_call 121; go_loud (refine (ref_in cm.d ⟨#[105, 97]⟩ (by decide) _).mono ?_; rintro e w2 ⟨rfl, hb2⟩; rw [in_ia, hin]))
   go_meet
   exact ⟨rfl, hb2⟩
  ·have x1 : (cm.d == cm.c) = false := by simpa using h1
   have hin := h2; have hmo := h3
   clear h1 h2 h3
   go_wp2_with (first | (go_at_call 121; go_loud (refine (ref_in cm.d ⟨#[105, 97]⟩ (by decide) _).mono ?_; rintro e w2 ⟨rfl, hb2⟩; rw [in_ia, hin]; have hC2 := hCm.below hb2 hCm.lt; clear d0 d1 d2 d3 d4; obtain ⟨d0, d1, d2, d3, d4⟩ := Blk.five hC2)) | (go_at_call 144; go_loud (refine (ref_isMotion cm.d _).mono ?_; rintro e w3 ⟨rfl, hb3⟩; rw [hmo])))
   go_meet
   exact ⟨rfl, hb2.trans (hb3.mono hb2.size)⟩
 obtain ⟨rfl, hb1⟩ := hcut
 have hL2 := hLn.below hb1 hLn.lt; have hR2 := hRg.below hb1 hRg.lt; have hF2 := hFd.below hb1 hFd.lt; have hC2 := hCm.below hb1 hCm.lt; have hZ2 := hZ.below hb1 hZ.lt
 have hB2 := hbw.trans (hb1.mono (by omega))
 clear d0 d1 d2 d3 d4 l0 l1
 obtain ⟨l0, l1, -, -⟩ := Blk.two hL2
 obtain ⟨p0, p1, -, -⟩ := Blk.two hF2
 obtain ⟨d0, d1, d2, d3, d4⟩ := Blk.five hC2
 go_wp2_with (first | (go_at_call 184; go_loud (refine (CS.out _ hB2).mono ?_; rintro e w3 ⟨rfl, hb3⟩; have hZ3 := hZ2.below hb3 hZ2.lt; have HB3 := Lib.hid (hB2.trans (hb3.mono hB2.size)); have hC3 := hC2.below hb3 hC2.lt; clear d0 d1 d2 d3 d4; obtain ⟨d0, d1, d2, d3, d4⟩ := Blk.five hC3)) | ((with_reducible show wpList _ _ _ (⟨none, Op.store _ _ _, _, _, _, _⟩ :: _) _ _); go_loud (refine res_store rfl _ _ rfl (w.heap.size + 4) 0 rfl zero33 rfl zero33 _ hZ3 (Nat.le_refl 33) rfl one_zero33 ?_; have hz9 := zero_store hZ3 zero33_len HB3.out (by omega) zero33 rfl; generalize w3.setCells (w.heap.size + 4) 0 zero33 = w9 at hz9 ⊢)))
 exact bodyPost_ret (results_ct Try.results143 rfl (res_loadVar hz9.1 zero33_len)) rfl ⟨zero33, rfl, (rsI_zero w.heap.size _ cm).rsQ I, hz9.2⟩
set_option maxRecDepth 100000 in
set_option maxHeartbeats 4000000 in
theorem opd_none (I : In) (a : Option Addr) (n c : Nat) (k fk fa : Int) (vs : List Value) (cm : C5) (w : World) (hk : cm.d = cm.c ∨ (cm.d ≠ cm.c ∧ iaB cm.d = true) ∨ (cm.d ≠ cm.c ∧ iaB cm.d = false ∧ motB cm.d = true)) (f g er : Int) (hS : ∀ w1, Below w.heap.size w w1 → Calls Try.prog 184 #[.agg #[.slice a n c, .int .i64 k], .agg #[.int .i64 fk, .int .i64 fa], .agg #[.int .i64 cm.a, .int .i64 cm.b, .int .i64 cm.c, .int .i64 cm.d, .int .i64 cm.e]] w1 (SpPost f g er w1)) (h0 : er = 0) (hfg : f = g) (h99 : cm.c ≠ 99) :
  Calls Try.prog 143 #[.agg #[.slice a n c, .int .i64 k], .agg (rgA vs), .agg #[.int .i64 fk, .int .i64 fa], .agg #[.int .i64 cm.a, .int .i64 cm.b, .int .i64 cm.c, .int .i64 cm.d, .int .i64 cm.e]] w (ResPost I 5 (zSt cm) w) := by
 subst h0; subst hfg
 have n99 : (cm.c != 99) = true := by simpa using h99
 have CS := Lib.hid hS
 have HK := Lib.hid hk
 clear hS hk h99
 have hbx := boxes5 w #[.slice a n c, .int .i64 k] #[.int .i64 fk, .int .i64 fa] #[.int .i64 cm.a, .int .i64 cm.b, .int .i64 cm.c, .int .i64 cm.d, .int .i64 cm.e] vs zero33 131 133 135 80 138
 dsimp only at hbx
 rw [show rgA zero33 = #[.slice none 0 0, .int .i64 0, .slice none 0 0, .slice none 0 0, .slice none 0 0, .slice none 0 0, .slice none 0 0, .slice none 0 0, .slice none 0 0, .slice none 0 0, .slice none 0 0, .slice none 0 0, .slice none 0 0, .slice none 0 0, .slice none 0 0, .slice none 0 0, .slice none 0 0, .slice none 0 0, .slice none 0 0, .slice none 0 0, .slice none 0 0, .slice none 0 0, .slice none 0 0, .slice none 0 0, .slice none 0 0, .slice none 0 0, .slice none 0 0, .slice none 0 0, .slice none 0 0, .int .i64 0, .int .i64 0, .int .i64 0, .slice none 0 0] from rfl] at hbx
 go_enter Try.func143, Try.ntmps143
 go_upto_region 1 with fail
 generalize (((((w.alloc (.cells #[.slice a n c, .int .i64 k] 131)).alloc (.cells (rgA vs) 133)).alloc (.cells #[.int .i64 fk, .int .i64 fa] 135)).alloc (.cells #[.int .i64 cm.a, .int .i64 cm.b, .int .i64 cm.c, .int .i64 cm.d, .int .i64 cm.e] 80)).alloc (.cells #[.slice none 0 0, .int .i64 0, .slice none 0 0, .slice none 0 0, .slice none 0 0, .slice none 0 0, .slice none 0 0, .slice none 0 0, .slice none 0 0, .slice none 0 0, .slice none 0 0, .slice none 0 0, .slice none 0 0, .slice none 0 0, .slice none 0 0, .slice none 0 0, .slice none 0 0, .slice none 0 0, .slice none 0 0, .slice none 0 0, .slice none 0 0, .slice none 0 0, .slice none 0 0, .slice none 0 0, .slice none 0 0, .slice none 0 0, .slice none 0 0, .slice none 0 0, .slice none 0 0, .int .i64 0, .int .i64 0, .int .i64 0, .slice none 0 0] 138)) = w5 at *
 obtain ⟨hLn, hRg, hFd, hCm, hZ, hbw, hsz⟩ := hbx
 obtain ⟨l0, l1, -, -⟩ := hLn.two
 obtain ⟨d0, d1, d2, d3, d4⟩ := Blk.five hCm
 go_upto_region 1 with fail
 go_cut [10] (fun v wx => v = .bool true ∧ Below w5.heap.size w5 wx)
 case first =>
  rcases HK.out with h1 | ⟨h1, h2⟩ | ⟨h1, h2, h3⟩
  ·have x1 : (cm.d == cm.c) = true := by simpa using h1
   clear h1
   go_wp2
   go_meet
   exact ⟨rfl, Below.refl _ _⟩
  ·have x1 : (cm.d == cm.c) = false := by simpa using h1
   have hin := h2
   clear h1 h2
   go_wp2_with (go_at_call 121; go_loud (refine (ref_in cm.d ⟨#[105, 97]⟩ (by decide) _).mono ?_; rintro e w2 ⟨rfl, hb2⟩; rw [in_ia, hin]))
   go_meet
   exact ⟨rfl, hb2⟩
  ·have x1 : (cm.d == cm.c) = false := by simpa using h1
   have hin := h2; have hmo := h3
   clear h1 h2 h3
   go_wp2_with (first | (go_at_call 121; go_loud (refine (ref_in cm.d ⟨#[105, 97]⟩ (by decide) _).mono ?_; rintro e w2 ⟨rfl, hb2⟩; rw [in_ia, hin]; have hC2 := hCm.below hb2 hCm.lt; clear d0 d1 d2 d3 d4; obtain ⟨d0, d1, d2, d3, d4⟩ := Blk.five hC2)) | (go_at_call 144; go_loud (refine (ref_isMotion cm.d _).mono ?_; rintro e w3 ⟨rfl, hb3⟩; rw [hmo])))
   go_meet
   exact ⟨rfl, hb2.trans (hb3.mono hb2.size)⟩
 obtain ⟨rfl, hb1⟩ := hcut
 have hL2 := hLn.below hb1 hLn.lt; have hR2 := hRg.below hb1 hRg.lt; have hF2 := hFd.below hb1 hFd.lt; have hC2 := hCm.below hb1 hCm.lt; have hZ2 := hZ.below hb1 hZ.lt
 have hB2 := hbw.trans (hb1.mono (by omega))
 clear d0 d1 d2 d3 d4 l0 l1
 obtain ⟨l0, l1, -, -⟩ := Blk.two hL2
 obtain ⟨p0, p1, -, -⟩ := Blk.two hF2
 obtain ⟨d0, d1, d2, d3, d4⟩ := Blk.five hC2
 go_wp2_with (first | (go_at_call 184; go_loud (refine (CS.out _ hB2).mono ?_; rintro e w3 ⟨rfl, hb3⟩; have hZ3 := hZ2.below hb3 hZ2.lt; have HB3 := Lib.hid (hB2.trans (hb3.mono hB2.size)); have hC3 := hC2.below hb3 hC2.lt; clear d0 d1 d2 d3 d4; obtain ⟨d0, d1, d2, d3, d4⟩ := Blk.five hC3)) | ((with_reducible show wpList _ _ _ (⟨none, Op.store _ _ _, _, _, _, _⟩ :: _) _ _); go_loud (refine res_store rfl _ _ rfl (w.heap.size + 4) 0 rfl zero33 rfl zero33 _ hZ3 (Nat.le_refl 33) rfl one_zero33 ?_; have hz9 := zero_store hZ3 zero33_len HB3.out (by omega) zero33 rfl; generalize w3.setCells (w.heap.size + 4) 0 zero33 = w9 at hz9 ⊢)))
 exact bodyPost_ret (results_ct Try.results143 rfl (res_loadVar hz9.1 zero33_len)) rfl ⟨zero33, rfl, (rsI_zero w.heap.size _ cm).rsQ I, hz9.2⟩
end Go.Proofs.Ytmipnikhgihcpaa
