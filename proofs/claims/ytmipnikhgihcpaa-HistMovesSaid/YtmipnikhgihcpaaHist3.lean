/- Contracts of hist.right, hist.to. -/
import Derived.Test.YtmipnikhgihcpaaHist2
import Derived.Test.YtmipnikhgihcpaaSlP
namespace Go.Proofs.Ytmipnikhgihcpaa
open Go.RowKit
set_option linter.unusedVariables false
set_option linter.unusedSimpArgs false

/-- a history in rows of the call's own -/
structure OHi (base : Nat) (w : World) (lv sv pv : Value) (ls : List (List Int)) (scr pat : List Int) : Prop where
  row : ∃ vs, VOwn 22 base w lv vs ∧ OLists base w vs ls
  scr : Own 3 base w sv scr
  pat : Own 3 base w pv pat
theorem OHi.setCell {base : Nat} {w : World} {lv sv pv : Value} {ls : List (List Int)} {scr pat : List Int} (h : OHi base w lv sv pv ls scr pat) {a : Addr} (ha : a.block < base) (u : Value) : OHi base (w.setCell a u) lv sv pv ls scr pat := by
  obtain ⟨vs, h1, h2⟩ := h.row
  exact ⟨⟨vs, h1.setCell ha u, h2.imp fun _ _ k => k.setCell ha u⟩, h.scr.setCell ha u, h.pat.setCell ha u⟩
theorem OHi.kept {base : Nat} {w w' : World} {lv sv pv : Value} {ls : List (List Int)} {scr pat : List Int} (h : OHi base w lv sv pv ls scr pat) (hb : Below w.heap.size w w') : OHi base w' lv sv pv ls scr pat := by
  obtain ⟨vs, h1, h2⟩ := h.row
  exact ⟨⟨vs, h1.kept hb, h2.imp fun _ _ k => k.kept hb⟩, h.scr.kept hb, h.pat.kept hb⟩
theorem OHi.mono {base base' : Nat} {w : World} {lv sv pv : Value} {ls : List (List Int)} {scr pat : List Int} (h : OHi base w lv sv pv ls scr pat) (hb : base' ≤ base) : OHi base' w lv sv pv ls scr pat := by
  obtain ⟨vs, h1, h2⟩ := h.row
  exact ⟨⟨vs, h1.mono hb, h2.imp fun _ _ k => k.mono hb⟩, h.scr.mono hb, h.pat.mono hb⟩
theorem OHi.form {base : Nat} {w : World} {lv sv pv : Value} {ls : List (List Int)} {scr pat : List Int} (h : OHi base w lv sv pv ls scr pat) : (∃ a n c, lv = .slice a n c) ∧ (∃ a n c, sv = .slice a n c) ∧ (∃ a n c, pv = .slice a n c) := by
  obtain ⟨vs, h1, h2⟩ := h.row
  exact ⟨h1.form, h.scr.form, h.pat.form⟩
theorem OHi.hir {base : Nat} {w : World} {lv sv pv : Value} {ls : List (List Int)} {scr pat : List Int} (h : OHi base w lv sv pv ls scr pat) (most wher : Int) (older : Bool) : HiR w lv most wher sv pv older ⟨ls, most, wher, scr, pat, older⟩ := by
  obtain ⟨vs, h1, h2⟩ := h.row
  exact ⟨⟨vs, h1.vs, h2.lists⟩, rfl, rfl, h.scr.sl, h.pat.sl, rfl⟩
/-- stores into blocks of before keep it -/
theorem OHi.stores {base : Nat} {lv sv pv : Value} {ls : List (List Int)} {scr pat : List Int} {B : Nat} (hB : B < base) (us : List Value) : ∀ {w : World} (o : Nat), OHi base w lv sv pv ls scr pat → OHi base (w.setCells B o us) lv sv pv ls scr pat := by
  induction us with
  | nil => intro w o h; exact h
  | cons u r ih => intro w o h; exact ih (o + 1) (h.setCell (a := ⟨B, o, none⟩) hB u)

/-- a history by value whose slices lie in blocks of kind P -/
structure HiP (P : Nat → Prop) (w : World) (lv : Value) (most wher : Int) (sv pv : Value) (older : Bool) (h : Hi) : Prop where
  ls : ∃ vs, VsP P w lv vs ∧ ListsP P w vs h.ls
  most : most = h.most
  wher : wher = h.wher
  scr : SlP P w sv h.scr
  pat : SlP P w pv h.pat
  older : older = h.older
theorem HiP.hir {P : Nat → Prop} {w : World} {lv : Value} {most wher : Int} {sv pv : Value} {older : Bool} {h : Hi} (r : HiP P w lv most wher sv pv older h) : HiR w lv most wher sv pv older h := by
  obtain ⟨vs, h1, h2⟩ := r.ls
  exact ⟨⟨vs, h1.vs, h2.lists⟩, r.most, r.wher, r.scr.sl, r.pat.sl, r.older⟩
theorem HiP.keep {P : Nat → Prop} {w w' : World} {lv : Value} {most wher : Int} {sv pv : Value} {older : Bool} {h : Hi} (r : HiP P w lv most wher sv pv older h) (hc : ∀ p v, P p.block → w.cell? p = some v → w'.cell? p = some v) : HiP P w' lv most wher sv pv older h := by
  obtain ⟨vs, h1, h2⟩ := r.ls
  exact ⟨⟨vs, h1.keep hc, h2.imp fun _ _ k => k.keep hc⟩, r.most, r.wher, r.scr.keep hc, r.pat.keep hc, r.older⟩
theorem HiP.imp {P Q : Nat → Prop} {w : World} {lv : Value} {most wher : Int} {sv pv : Value} {older : Bool} {h : Hi} (r : HiP P w lv most wher sv pv older h) (hi : ∀ k, P k → Q k) : HiP Q w lv most wher sv pv older h := by
  obtain ⟨vs, h1, h2⟩ := r.ls
  exact ⟨⟨vs, h1.imp hi, h2.imp fun _ _ k => k.imp hi⟩, r.most, r.wher, r.scr.imp hi, r.pat.imp hi, r.older⟩
theorem HiP.setCell {P : Nat → Prop} {w : World} {lv : Value} {most wher : Int} {sv pv : Value} {older : Bool} {h : Hi} (r : HiP P w lv most wher sv pv older h) {a : Addr} (ha : ¬ P a.block) (u : Value) : HiP P (w.setCell a u) lv most wher sv pv older h :=
  r.keep fun p v hp hc => cell_other hc (fun e => ha (e ▸ hp))
theorem HiP.below {P : Nat → Prop} {w w' : World} {lv : Value} {most wher : Int} {sv pv : Value} {older : Bool} {h : Hi} (r : HiP P w lv most wher sv pv older h) (hb : Below w.heap.size w w') : HiP P w' lv most wher sv pv older h := r.keep fun p v _ hc => below_keeps hb p v hc
theorem HiR.lt {w : World} {lv : Value} {most wher : Int} {sv pv : Value} {older : Bool} {h : Hi} (r : HiR w lv most wher sv pv older h) : HiP (fun k => k < w.heap.size) w lv most wher sv pv older h := by
  obtain ⟨vs, h1, h2⟩ := r.ls
  exact ⟨⟨vs, h1.lt, h2.lt⟩, r.most, r.wher, r.scr.lt, r.pat.lt, r.older⟩
theorem HiP.lt {P : Nat → Prop} {w : World} {lv : Value} {most wher : Int} {sv pv : Value} {older : Bool} {h : Hi} (r : HiP P w lv most wher sv pv older h) : HiP (fun k => P k ∧ k < w.heap.size) w lv most wher sv pv older h := by
  obtain ⟨vs, h1, h2⟩ := r.ls
  exact ⟨⟨vs, h1.lt, h2.lt⟩, r.most, r.wher, r.scr.lt, r.pat.lt, r.older⟩
theorem OHi.hip {base : Nat} {w : World} {lv sv pv : Value} {ls : List (List Int)} {scr pat : List Int} (h : OHi base w lv sv pv ls scr pat) (most wher : Int) (older : Bool) : HiP (fun k => base ≤ k) w lv most wher sv pv older ⟨ls, most, wher, scr, pat, older⟩ := by
  obtain ⟨vs, h1, h2⟩ := h.row
  exact ⟨⟨vs, h1.vsp, ⟨h2.1, fun i hi => (h2.2 i hi).slp⟩⟩, rfl, rfl, h.scr.slp, h.pat.slp, rfl⟩

/-- what a move in a history answers; its slices lie in blocks of kind P -/
def HPost (P : Nat → Prop) (h : Hi) (line : List Int) (E : Int) (w : World) (e : Ending) (w' : World) : Prop :=
  ∃ lv sv pv nv, e = .returned (.tuple #[.agg (hiC lv h.most h.wher sv pv h.older), nv, .int .i64 E]) ∧ HiP P w' lv h.most h.wher sv pv h.older h ∧ SlP P w' nv line ∧ Below w.heap.size w w'
def hi0 : Hi := ⟨[], 0, 0, [], [], false⟩
theorem hip0 (P : Nat → Prop) (w : World) : HiP P w (.slice none 0 0) 0 0 (.slice none 0 0) (.slice none 0 0) false hi0 := ⟨⟨[], VsP.nil _ _, ⟨rfl, fun i hi => by simp [hi0] at hi⟩⟩, rfl, rfl, SlP.nil _ _, SlP.nil _ _, rfl⟩

/-- is the history small? -/
structure HiOk (h : Hi) : Prop where
  most1 : 1 ≤ h.most
  most2 : h.most ≤ 50
  len : (h.ls.length : Int) ≤ h.most
  wher1 : 0 ≤ h.wher
  wher2 : h.wher ≤ h.ls.length
  lines : ∀ i, i < h.ls.length → (rx h.ls i).length ≤ 200
  scr : h.scr.length ≤ 200
  pat : h.pat.length ≤ 200
theorem hiOk_of {h : Hi} (hE : hiE h = 0) : HiOk h := by
  unfold hiE at hE
  split at hE
  · simp at hE
  · split at hE
    · simp at hE
    · rename_i h1 h2
      simp only [Bool.not_eq_true, Bool.or_eq_false_iff, longL, decide_eq_false_iff_not, List.any_eq_false, decide_eq_true_eq] at h2
      refine ⟨by omega, by omega, by omega, by omega, by omega, fun i hi => ?_, by omega, by omega⟩
      have := h2.1.1 (rx h.ls i) (rx_mem hi)
      omega

/-- right's answer -/
def rightE (h : Hi) (nn : Nat) (n : Int) : Int := if hiE h ≠ 0 then hiE h else if 200 < nn then 2 else if n < 0 ∨ 999 < n then 1 else 0

set_option maxRecDepth 100000 in
set_option maxHeartbeats 1000000 in
theorem hist_right (lv : Value) (most wher : Int) (sv pv : Value) (older : Bool) (h : Hi) (a : Option Addr) (nn c : Nat) (n : Int) (w : World) (r : HiR w lv most wher sv pv older h) :
    Calls Try.prog 102 #[.agg (hiC lv most wher sv pv older), .slice a nn c, .int .i64 n] w fun e w' => e = .returned (.int .i64 (rightE h nn n)) ∧ Below w.heap.size w w' := by
  obtain ⟨E, hE⟩ : ∃ E, hiE h = E := ⟨_, rfl⟩
  have hR : rightE h nn n = if E ≠ 0 then E else if 200 < nn then 2 else if n < 0 ∨ 999 < n then 1 else 0 := by rw [rightE, hE]
  have HC := Lib.hid (hist_check lv most wher sv pv older h)
  have HE := Lib.hid hE
  have hrr := r
  obtain ⟨⟨vs, hvs, hls⟩, -, -, hscr, hpat, -⟩ := r
  obtain ⟨la, ln, lc, rfl, -⟩ := hvs
  obtain ⟨sa, sn, sc, rfl, -⟩ := hscr
  obtain ⟨pa, pn, pc, rfl, -⟩ := hpat
  have HRR := Lib.hid hrr
  clear hls hE hrr
  unfold hiC at *
  have hB := Blk.new w #[.slice la ln lc, .int .i64 most, .int .i64 wher, .slice sa sn sc, .slice pa pn pc, .bool older] 48
  obtain ⟨c0, c1, c2, c3, c4, c5⟩ := hB.six
  have hacc := below1 w (.cells #[.slice la ln lc, .int .i64 most, .int .i64 wher, .slice sa sn sc, .slice pa pn pc, .bool older] 48)
  have HRR2 := Lib.hid (HRR.out.below hacc)
  by_cases h0 : E = 0
  · rw [if_neg (by simpa using h0)] at hR
    subst h0
    rcases (show 200 < nn ∨ (nn ≤ 200 ∧ n < 0) ∨ (nn ≤ 200 ∧ 0 ≤ n ∧ 999 < n) ∨ (nn ≤ 200 ∧ 0 ≤ n ∧ n ≤ 999) by omega) with h1 | ⟨h1, h2⟩ | ⟨h1, h2, h3⟩ | ⟨h1, h2, h3⟩
    · rw [if_pos h1] at hR
      have HR := Lib.hid hR; clear hR
      go_enter Try.func102, Try.ntmps102
      go_wp2_with ((go_at_call 30); refine (HC.out _ HRR2.out).mono ?_; rintro e w2 ⟨rfl, hb2⟩; rw [HE.out])
      go_ret
      exact ⟨ret1_int HR.out.symm, below_then hacc (by simp) hb2⟩
    all_goals
      rw [if_neg (by omega)] at hR
      first | rw [if_pos (by omega)] at hR | rw [if_neg (by omega)] at hR
      have HR := Lib.hid hR; clear hR
      go_enter Try.func102, Try.ntmps102
      go_wp2_with ((go_at_call 30); refine (HC.out _ HRR2.out).mono ?_; rintro e w2 ⟨rfl, hb2⟩; rw [HE.out])
      go_ret
      exact ⟨ret1_int HR.out.symm, below_then hacc (by simp) hb2⟩
  · rw [if_pos h0] at hR
    have HR := Lib.hid hR
    have h0' : (E != 0) = true := by simpa using h0
    clear hR h0
    go_enter Try.func102, Try.ntmps102
    go_wp2_with ((go_at_call 30); refine (HC.out _ HRR2.out).mono ?_; rintro e w2 ⟨rfl, hb2⟩; rw [HE.out])
    go_ret
    exact ⟨ret1_int HR.out.symm, below_then hacc (by simp) hb2⟩

end Go.Proofs.Ytmipnikhgihcpaa
