/- Contracts of hist.Find, hist.Again for all inputs. -/
import Derived.Test.YtbgbcmfgncneiaaSix
import Derived.Test.YtbgbcmfgncneiaaHist7a
import Derived.Test.YtbgbcmfgncneiaaHist7b
import Derived.Test.YtbgbcmfgncneiaaHist7c
import Derived.Test.YtbgbcmfgncneiaaHist7d
namespace Go.Proofs.Ytbgbcmfgncneiaa
open Go.RowKit
set_option linter.unusedVariables false
set_option linter.unusedSimpArgs false

/-- the word that is looked for -/
def patOf (h : Hi) (ps : List Int) : List Int := if ps = [] then h.pat else ps
/-- what Find answers -/
def FindRes (h : Hi) (xs ps : List Int) (ol : Bool) (h' : Hi) (l : List Int) (E : Int) : Prop :=
  (rightE h xs.length 0 ≠ 0 ∧ h' = hi0 ∧ l = [] ∧ E = rightE h xs.length 0) ∨
  (rightE h xs.length 0 = 0 ∧ 200 < ps.length ∧ h' = hi0 ∧ l = [] ∧ E = 2) ∨
  (rightE h xs.length 0 = 0 ∧ ps.length ≤ 200 ∧ patOf h ps = [] ∧ h' = hi0 ∧ l = [] ∧ E = 6) ∨
  (rightE h xs.length 0 = 0 ∧ ps.length ≤ 200 ∧ patOf h ps ≠ [] ∧ ∃ k, Found (fun j => fitsB (patOf h ps) (rx h.ls j)) ol h.wher h.ls.length k ∧ h' = setPat (toH h xs k) (patOf h ps) ol ∧ l = toL h xs k ∧ E = 0) ∨
  (rightE h xs.length 0 = 0 ∧ ps.length ≤ 200 ∧ patOf h ps ≠ [] ∧ NoFind (fun j => fitsB (patOf h ps) (rx h.ls j)) ol h.wher h.ls.length ∧ h' = hi0 ∧ l = [] ∧ E = 5)

theorem Found.unique {F : Nat → Bool} {o : Bool} {W : Int} {n k k' : Nat} (h : Found F o W n k) (g : Found F o W n k') : k = k' := by
  have h1 := h.first k' g.lt g.side
  have h2 := g.first k h.lt h.side
  have h3 := h.hit; have h4 := g.hit
  cases o
  all_goals
    simp only [if_true, if_false, Bool.false_eq_true] at h1 h2
    rcases Nat.lt_trichotomy k k' with h | h | h
    · first | (have := h1 h; simp_all) | (have := h2 h; simp_all)
    · exact h
    · first | (have := h1 h; simp_all) | (have := h2 h; simp_all)
theorem Found.no {F : Nat → Bool} {o : Bool} {W : Int} {n k : Nat} (h : Found F o W n k) (g : NoFind F o W n) : False := by
  have := g k h.lt h.side
  have := h.hit
  simp_all

theorem FindRes.unique {h : Hi} {xs ps : List Int} {ol : Bool} {h1 h2 : Hi} {l1 l2 : List Int} {E1 E2 : Int} (a : FindRes h xs ps ol h1 l1 E1) (b : FindRes h xs ps ol h2 l2 E2) : h1 = h2 ∧ l1 = l2 ∧ E1 = E2 := by
  rcases a with ⟨a1, rfl, rfl, rfl⟩ | ⟨a1, a2, rfl, rfl, rfl⟩ | ⟨a1, a2, a3, rfl, rfl, rfl⟩ | ⟨a1, a2, a3, k, a4, rfl, rfl, rfl⟩ | ⟨a1, a2, a3, a4, rfl, rfl, rfl⟩ <;>
  rcases b with ⟨b1, rfl, rfl, rfl⟩ | ⟨b1, b2, rfl, rfl, rfl⟩ | ⟨b1, b2, b3, rfl, rfl, rfl⟩ | ⟨b1, b2, b3, k', b4, rfl, rfl, rfl⟩ | ⟨b1, b2, b3, b4, rfl, rfl, rfl⟩ <;>
  first
    | exact ⟨rfl, rfl, rfl⟩
    | exact absurd b1 a1
    | exact absurd a1 b1
    | omega
    | exact absurd a3 b3
    | exact absurd b3 a3
    | exact (a4.no b4).elim
    | exact (b4.no a4).elim
    | (obtain rfl := a4.unique b4; exact ⟨rfl, rfl, rfl⟩)

def ResPost (R : Hi → List Int → Int → Prop) (P : Nat → Prop) (w : World) (e : Ending) (w' : World) : Prop := ∃ h l E, R h l E ∧ HPost P h l E w e w'

theorem hist_Find (lv : Value) (most wher : Int) (sv pv : Value) (older : Bool) (h : Hi) (a : Option Addr) (nn c : Nat) (xs : List Int) (a2 : Option Addr) (np cq : Nat) (ps : List Int) (ol : Bool) (w : World) (r : HiR w lv most wher sv pv older h) (hx : Ints w a xs) (hxn : xs.length = nn) (hx0 : a = none → nn = 0) (hps : Ints w a2 ps) (hpl : ps.length = np) (hp0 : a2 = none → np = 0) (hpc : np ≤ cq) (hpc2 : cq ≤ 9223372036854775807) :
    Calls Try.prog 70 #[.agg (hiC lv most wher sv pv older), .slice a nn c, .slice a2 np cq, .bool ol] w (ResPost (FindRes h xs ps ol) (fun k => w.heap.size ≤ k) w) := by
  obtain ⟨ls, M, W, scr, pat, O⟩ := h
  by_cases hE : rightE ⟨ls, M, W, scr, pat, O⟩ nn 0 = 0
  · have hn : nn ≤ 200 := by
      unfold rightE at hE
      split at hE
      · exact absurd hE (by assumption)
      · split at hE
        · simp at hE
        · omega
    have hok : HiOk ⟨ls, M, W, scr, pat, O⟩ := hiOk_of (by
      unfold rightE at hE
      split at hE
      · exact hE
      · rename_i h; simpa using h)
    rcases Nat.lt_or_ge 200 np with h2 | h2
    · exact (hist_Find_large lv most wher sv pv older ls M W scr pat O a nn c a2 np cq ol w r hE h2 _).mono fun e w' h => ⟨hi0, [], 2, .inr (.inl ⟨by rw [hxn]; exact hE, by omega, rfl, rfl, rfl⟩), h⟩
    · rcases Nat.eq_zero_or_pos np with h3 | h3
      · have hpe : ps = [] := List.eq_nil_of_length_eq_zero (by omega)
        by_cases hp : pat = []
        · exact (hist_Find_none lv most wher sv pv older ls M W scr pat O a nn c a2 np cq ol w r hE h3 hp _).mono fun e w' h => ⟨hi0, [], 6, .inr (.inr (.inl ⟨by rw [hxn]; exact hE, by omega, by rw [patOf, if_pos hpe]; exact hp, rfl, rfl, rfl⟩)), h⟩
        · have hq : patOf ⟨ls, M, W, scr, pat, O⟩ ps = pat := by rw [patOf, if_pos hpe]
          cases ol
          · refine (hist_Find_Nn lv most wher sv pv older ls M W scr pat O a nn c a2 np cq w r xs hE hok hx hxn hx0 hn h3 hp).mono ?_
            rintro e w' (⟨k, hk, h⟩ | ⟨hk, h⟩)
            · exact ⟨_, _, _, .inr (.inr (.inr (.inl ⟨by rw [hxn]; exact hE, by omega, by rw [hq]; exact hp, k, by rw [hq]; exact hk, rfl, rfl, rfl⟩))), by rw [hq]; exact h⟩
            · exact ⟨_, _, _, .inr (.inr (.inr (.inr ⟨by rw [hxn]; exact hE, by omega, by rw [hq]; exact hp, by rw [hq]; exact hk, rfl, rfl, rfl⟩))), h⟩
          · refine (hist_Find_No lv most wher sv pv older ls M W scr pat O a nn c a2 np cq w r xs hE hok hx hxn hx0 hn h3 hp).mono ?_
            rintro e w' (⟨k, hk, h⟩ | ⟨hk, h⟩)
            · exact ⟨_, _, _, .inr (.inr (.inr (.inl ⟨by rw [hxn]; exact hE, by omega, by rw [hq]; exact hp, k, by rw [hq]; exact hk, rfl, rfl, rfl⟩))), by rw [hq]; exact h⟩
            · exact ⟨_, _, _, .inr (.inr (.inr (.inr ⟨by rw [hxn]; exact hE, by omega, by rw [hq]; exact hp, by rw [hq]; exact hk, rfl, rfl, rfl⟩))), h⟩
      · have hpe : ps ≠ [] := by rintro rfl; simp at hpl; omega
        have hq : patOf ⟨ls, M, W, scr, pat, O⟩ ps = ps := by rw [patOf, if_neg hpe]
        cases ol
        · refine (hist_Find_Pn lv most wher sv pv older ls M W scr pat O a nn c a2 np cq w r xs ps hE hok hx hxn hx0 hn h3 hps hpl hp0 h2 hpc hpc2).mono ?_
          rintro e w' (⟨k, hk, h⟩ | ⟨hk, h⟩)
          · exact ⟨_, _, _, .inr (.inr (.inr (.inl ⟨by rw [hxn]; exact hE, by omega, by rw [hq]; exact hpe, k, by rw [hq]; exact hk, rfl, rfl, rfl⟩))), by rw [hq]; exact h⟩
          · exact ⟨_, _, _, .inr (.inr (.inr (.inr ⟨by rw [hxn]; exact hE, by omega, by rw [hq]; exact hpe, by rw [hq]; exact hk, rfl, rfl, rfl⟩))), h⟩
        · refine (hist_Find_Po lv most wher sv pv older ls M W scr pat O a nn c a2 np cq w r xs ps hE hok hx hxn hx0 hn h3 hps hpl hp0 h2 hpc hpc2).mono ?_
          rintro e w' (⟨k, hk, h⟩ | ⟨hk, h⟩)
          · exact ⟨_, _, _, .inr (.inr (.inr (.inl ⟨by rw [hxn]; exact hE, by omega, by rw [hq]; exact hpe, k, by rw [hq]; exact hk, rfl, rfl, rfl⟩))), by rw [hq]; exact h⟩
          · exact ⟨_, _, _, .inr (.inr (.inr (.inr ⟨by rw [hxn]; exact hE, by omega, by rw [hq]; exact hpe, by rw [hq]; exact hk, rfl, rfl, rfl⟩))), h⟩
  · exact (hist_Find_bad lv most wher sv pv older ls M W scr pat O a nn c a2 np cq ol w r _ rfl hE _).mono fun e w' h => ⟨hi0, [], _, .inl ⟨by rw [hxn]; exact hE, rfl, rfl, by rw [hxn]⟩, h⟩

def AgainRes (h : Hi) (xs : List Int) (tu : Bool) (h' : Hi) (l : List Int) (E : Int) : Prop :=
  ∃ h1, FindRes h xs [] (h.older != tu) h1 l E ∧ h' = if E = 0 then ⟨h1.ls, h1.most, h1.wher, h1.scr, h1.pat, h.older⟩ else h1
theorem AgainRes.unique {h : Hi} {xs : List Int} {tu : Bool} {h1 h2 : Hi} {l1 l2 : List Int} {E1 E2 : Int} (a : AgainRes h xs tu h1 l1 E1) (b : AgainRes h xs tu h2 l2 E2) : h1 = h2 ∧ l1 = l2 ∧ E1 = E2 := by
  obtain ⟨g, a1, rfl⟩ := a
  obtain ⟨g', b1, rfl⟩ := b
  obtain ⟨rfl, rfl, rfl⟩ := a1.unique b1
  exact ⟨rfl, rfl, rfl⟩

set_option maxRecDepth 100000 in
set_option maxHeartbeats 4000000 in
theorem hist_Again (lv : Value) (most wher : Int) (sv pv : Value) (older : Bool) (h : Hi) (a : Option Addr) (nn c : Nat) (xs : List Int) (tu : Bool) (w : World) (r : HiR w lv most wher sv pv older h) (hx : Ints w a xs) (hxn : xs.length = nn) (hx0 : a = none → nn = 0) :
    Calls Try.prog 72 #[.agg (hiC lv most wher sv pv older), .slice a nn c, .bool tu] w (ResPost (AgainRes h xs tu) (fun k => w.heap.size ≤ k) w) := by
  have HR0 := Lib.hid r
  have HXN := Lib.hid hxn; have HX0 := Lib.hid hx0
  clear hxn hx0
  obtain ⟨ls, M, W, scr, pat, O⟩ := h
  obtain ⟨⟨vs, hvs, hls⟩, h1, h2, hscr, hpat, h3⟩ := r
  simp only at hls h1 h2 h3 hscr hpat
  obtain rfl : M = most := h1.symm
  obtain rfl : W = wher := h2.symm
  obtain rfl : O = older := h3.symm
  obtain ⟨la, ln, lc, rfl, -⟩ := hvs
  obtain ⟨sa, sn, sc, rfl, -⟩ := hscr
  obtain ⟨pa, pn, pc, rfl, -⟩ := hpat
  clear hls
  have HFI := Lib.hid (fun W' r hx => hist_Find (.slice la ln lc) M W (.slice sa sn sc) (.slice pa pn pc) O ⟨ls, M, W, scr, pat, O⟩ a nn c xs none 0 0 [] (O != tu) W' r hx HXN.out HX0.out (Ints.nil _ _) rfl (fun _ => rfl) (Nat.le_refl _) (by omega))
  unfold hiC at *
  have hB := (Blk.new w #[.slice la ln lc, .int .i64 M, .int .i64 W, .slice sa sn sc, .slice pa pn pc, .bool O] 90).alloc (.cells #[.slice none 0 0, .int .i64 0, .int .i64 0, .slice none 0 0, .slice none 0 0, .bool false] 90)
  have hR := Blk.new (w.alloc (.cells #[.slice la ln lc, .int .i64 M, .int .i64 W, .slice sa sn sc, .slice pa pn pc, .bool O] 90)) #[.slice none 0 0, .int .i64 0, .int .i64 0, .slice none 0 0, .slice none 0 0, .bool false] 90
  rw [World.size_alloc] at hR
  have hacc := below2 w (.cells #[.slice la ln lc, .int .i64 M, .int .i64 W, .slice sa sn sc, .slice pa pn pc, .bool O] 90) (.cells #[.slice none 0 0, .int .i64 0, .int .i64 0, .slice none 0 0, .slice none 0 0, .bool false] 90)
  have hsz : w.heap.size + 2 ≤ ((w.alloc (.cells #[.slice la ln lc, .int .i64 M, .int .i64 W, .slice sa sn sc, .slice pa pn pc, .bool O] 90)).alloc (.cells #[.slice none 0 0, .int .i64 0, .int .i64 0, .slice none 0 0, .slice none 0 0, .bool false] 90)).heap.size := by simp
  have HR1 := Lib.hid (HR0.out.below hacc)
  have hx1 := hx.below hacc
  clear HR0 hx
  go_enter Try.func72, Try.ntmps72
  go_upto_region 1 with fail
  change Code.wp _ _ _ _ ((w.alloc (.cells #[.slice la ln lc, .int .i64 M, .int .i64 W, .slice sa sn sc, .slice pa pn pc, .bool O] 90)).alloc (.cells #[.slice none 0 0, .int .i64 0, .int .i64 0, .slice none 0 0, .slice none 0 0, .bool false] 90))
  generalize ((w.alloc (.cells #[.slice la ln lc, .int .i64 M, .int .i64 W, .slice sa sn sc, .slice pa pn pc, .bool O] 90)).alloc (.cells #[.slice none 0 0, .int .i64 0, .int .i64 0, .slice none 0 0, .slice none 0 0, .bool false] 90)) = w1 at *
  obtain ⟨c0, c1, c2, c3, c4, c5⟩ := hB.six
  go_wp2_with fail
  refine (HFI.out _ HR1.out hx1).mono ?_
  rintro e w2 ⟨h6, l6, E, hres, lv6, sv6, pv6, nv6, rfl, hp6, hn6, hb2⟩
  have HRES := Lib.hid hres
  obtain ⟨ls6, M6, W6, scr6, pat6, O6⟩ := h6
  simp only [hiC] at *
  obtain ⟨vs6, ⟨ra, rn, rc, rfl, -⟩, -⟩ := hp6.ls
  obtain ⟨ta, tn, tc, rfl⟩ := hp6.scr.form
  obtain ⟨ua, un, uc, rfl⟩ := hp6.pat.form
  have HP6 := Lib.hid hp6.lt; have HN6 := Lib.hid hn6.lt
  have hz2 := hb2.size
  have hB2 := hB.below hb2 hB.lt
  obtain ⟨d0, d1, d2, d3, d4, d5⟩ := hB2.six
  have hR2 := hR.below hb2 hR.lt
  have hacc2 := below_then hacc (by omega) hb2
  clear hp6 hn6 hres c0 c1 c2 c3 c4 c5
  have hN := Blk.new w2 #[.slice ra rn rc, .int .i64 M6, .int .i64 W6, .slice ta tn tc, .slice ua un uc, .bool O6] 90
  have hRn := hR2.alloc (.cells #[.slice ra rn rc, .int .i64 M6, .int .i64 W6, .slice ta tn tc, .slice ua un uc, .bool O6] 90)
  have hBn := hB2.alloc (.cells #[.slice ra rn rc, .int .i64 M6, .int .i64 W6, .slice ta tn tc, .slice ua un uc, .bool O6] 90)
  have hk0 := below1 w2 (.cells #[.slice ra rn rc, .int .i64 M6, .int .i64 W6, .slice ta tn tc, .slice ua un uc, .bool O6] 90)
  have hP3 := HP6.out.below hk0
  have hN3 := HN6.out.below hk0
  have hacc3 := below_then hacc2 (by omega) hk0
  have HP3 := Lib.hid hP3; have HN3 := Lib.hid hN3
  clear hP3 hN3 HP6 HN6
  go_upto_region 2 with fail
  change Code.wp _ _ _ _ (w2.alloc (.cells #[.slice ra rn rc, .int .i64 M6, .int .i64 W6, .slice ta tn tc, .slice ua un uc, .bool O6] 90))
  generalize (w2.alloc (.cells #[.slice ra rn rc, .int .i64 M6, .int .i64 W6, .slice ta tn tc, .slice ua un uc, .bool O6] 90)) = w3 at *
  obtain ⟨p0, p1, p2, p3, p4, p5⟩ := hRn.six
  obtain ⟨t0, t1, t2, t3, t4, t5⟩ := hRn.sixf
  obtain ⟨n0, n1, n2, n3, n4, n5⟩ := hN.six
  obtain ⟨m0, m1, m2, m3, m4, m5⟩ := hN.sixf
  obtain ⟨q0, q1, q2, q3, q4, q5⟩ := hBn.six
  by_cases hE : E = 0
  · have HE := Lib.hid hE
    have hE' : (E == 0) = true := by simpa using hE
    clear hE
    go_wp2
    have hRz := hRn.other (a := ⟨w2.heap.size, 5, none⟩) (by show w.heap.size + 1 ≠ w2.heap.size; omega) (.bool O)
    obtain ⟨y0, y1, y2, y3, y4, y5⟩ := (hRz.six' (.slice ra rn rc) (.int .i64 M6) (.int .i64 W6) (.slice ta tn tc) (.slice ua un uc) (.bool O)).six
    refine bodyPost_ret (v := .tuple #[.agg (hiC (.slice ra rn rc) M6 W6 (.slice ta tn tc) (.slice ua un uc) O), nv6, .int .i64 E]) (by simp [results, Try.results72, go_sem, y0, y1, y2, y3, y4, y5, hiC]) rfl ?_
    have hP4 := (HP3.out.setCell (a := ⟨w2.heap.size, 5, none⟩) (by simp) (.bool O)).six (B := w.heap.size + 1) (u0 := .slice ra rn rc) (u1 := .int .i64 M6) (u2 := .int .i64 W6) (u3 := .slice ta tn tc) (u4 := .slice ua un uc) (u5 := .bool O) (by omega)
    obtain ⟨vsA, g1, g2⟩ := hP4.ls
    exact ⟨⟨ls6, M6, W6, scr6, pat6, O⟩, l6, E, ⟨_, HRES.out, by rw [if_pos HE.out]⟩, _, _, _, _, rfl, ⟨⟨vsA, g1.imp (fun k hk => by omega), g2.imp (fun _ _ h => h.imp (fun k hk => by omega))⟩, rfl, rfl, hP4.scr.imp (fun k hk => by omega), hP4.pat.imp (fun k hk => by omega), rfl⟩, ((HN3.out.setCell (a := ⟨w2.heap.size, 5, none⟩) (by simp) (.bool O)).six (by omega)).imp (fun k hk => by omega), below6 (hacc3.setCell (p := ⟨w2.heap.size, 5, none⟩) (by show w.heap.size ≤ w2.heap.size; omega) (.bool O)) (by omega)⟩
  · have HE := Lib.hid hE
    have hE' : (E == 0) = false := by simpa using hE
    clear hE
    go_wp2
    obtain ⟨y0, y1, y2, y3, y4, y5⟩ := (hRn.six' (.slice ra rn rc) (.int .i64 M6) (.int .i64 W6) (.slice ta tn tc) (.slice ua un uc) (.bool O6)).six
    refine bodyPost_ret (v := .tuple #[.agg (hiC (.slice ra rn rc) M6 W6 (.slice ta tn tc) (.slice ua un uc) O6), nv6, .int .i64 E]) (by simp [results, Try.results72, go_sem, y0, y1, y2, y3, y4, y5, hiC]) rfl ?_
    exact ⟨⟨ls6, M6, W6, scr6, pat6, O6⟩, l6, E, ⟨_, HRES.out, by rw [if_neg HE.out]⟩, _, _, _, _, rfl, (HP3.out.six (by omega)).imp (fun k hk => by omega), (HN3.out.six (by omega)).imp (fun k hk => by omega), below6 hacc3 (by omega)⟩

end Go.Proofs.Ytbgbcmfgncneiaa
