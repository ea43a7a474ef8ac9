/- Trees of package rope in memory; contracts of rope.size, tall, made. -/
import Derived.Test.YtmipnikhgihcpaaSl
import Derived.Test.YtmipnikhgihcpaaSlP
namespace Go.Proofs.Ytmipnikhgihcpaa
open Go.RowKit
set_option linter.unusedVariables false
set_option linter.unusedSimpArgs false

/-- trees -/
inductive Tr where
  | nil : Tr
  | node (l : Tr) (c : Int) (r : Tr) : Tr
def Tr.toL : Tr → List Int
  | .nil => []
  | .node l c r => l.toL ++ c :: r.toL
def Tr.tall : Tr → Nat
  | .nil => 0
  | .node l _ r => 1 + max l.tall r.tall
theorem Tr.tall_le : ∀ t : Tr, t.tall ≤ t.toL.length
  | .nil => Nat.le_refl _
  | .node l c r => by
    have h1 := l.tall_le; have h2 := r.tall_le
    simp only [Tr.tall, Tr.toL, List.length_append, List.length_cons]
    omega
/-- value v is a tree -/
def TreeR (w : World) : Value → Tr → Prop
  | v, .nil => v = .pointer none
  | v, .node l c r => ∃ b lv rv, v = .pointer (some ⟨b, 0, none⟩) ∧ w.cell? ⟨b, 0, none⟩ = some lv ∧ w.cell? ⟨b, 1, none⟩ = some rv ∧ w.cell? ⟨b, 2, none⟩ = some (.int .i64 c) ∧
      w.cell? ⟨b, 3, none⟩ = some (.int .i64 ((Tr.node l c r).toL.length : Int)) ∧ w.cell? ⟨b, 4, none⟩ = some (.int .i64 ((Tr.node l c r).tall : Int)) ∧ TreeR w lv l ∧ TreeR w rv r
theorem TreeR.keep {w w' : World} (hc : ∀ p v, w.cell? p = some v → w'.cell? p = some v) : ∀ {t : Tr} {v : Value}, TreeR w v t → TreeR w' v t
  | .nil, _, h => h
  | .node l c r, _, ⟨b, lv, rv, h0, h1, h2, h3, h4, h5, h6, h7⟩ => ⟨b, lv, rv, h0, hc _ _ h1, hc _ _ h2, hc _ _ h3, hc _ _ h4, hc _ _ h5, h6.keep hc, h7.keep hc⟩
theorem TreeR.below {w w' : World} {v : Value} {t : Tr} (h : TreeR w v t) (hb : Below w.heap.size w w') : TreeR w' v t := h.keep (below_keeps hb)
theorem TreeR.drewN {w : World} {v : Value} {t : Tr} (h : TreeR w v t) (n : Nat) : TreeR (w.drewN n) v t := TreeR.keep (w := w) (w' := w.drewN n) (fun p v hc => (show (w.drewN n).cell? p = some v from hc)) h
theorem TreeR.form {w : World} {v : Value} {t : Tr} (h : TreeR w v t) : ∃ p, v = .pointer p := by
  cases t with
  | nil => exact ⟨none, h⟩
  | node l c r => obtain ⟨b, _, _, h0, _⟩ := h; exact ⟨_, h0⟩
/-- a call returns a tree with these characters -/
def LPost (L : List Int) (w : World) (e : Ending) (w' : World) : Prop := ∃ p T, e = .returned (.pointer p) ∧ TreeR w' (.pointer p) T ∧ T.toL = L ∧ Below w.heap.size w w'

set_option maxRecDepth 100000 in
theorem rope_size (v : Value) (t : Tr) (w : World) (h : TreeR w v t) :
    Calls Try.prog 113 #[v] w fun e w' => e = .returned (.int .i64 (t.toL.length : Int)) ∧ w = w' := by
  cases t with
  | nil =>
    obtain rfl : v = .pointer none := h
    go_enter Try.func113, Try.ntmps113
    go_wp2
    go_ret
    exact ⟨rfl, rfl⟩
  | node l c r =>
    obtain ⟨b, lv, rv, rfl, h1, h2, h3, h4, h5, -, -⟩ := h
    go_enter Try.func113, Try.ntmps113
    go_wp2
    go_ret
    exact ⟨rfl, rfl⟩
set_option maxRecDepth 100000 in
theorem rope_tall (v : Value) (t : Tr) (w : World) (h : TreeR w v t) :
    Calls Try.prog 202 #[v] w fun e w' => e = .returned (.int .i64 (t.tall : Int)) ∧ w = w' := by
  cases t with
  | nil =>
    obtain rfl : v = .pointer none := h
    go_enter Try.func202, Try.ntmps202
    go_wp2
    go_ret
    exact ⟨rfl, rfl⟩
  | node l c r =>
    obtain ⟨b, lv, rv, rfl, h1, h2, h3, h4, h5, -, -⟩ := h
    go_enter Try.func202, Try.ntmps202
    go_wp2
    go_ret
    exact ⟨rfl, rfl⟩

/-- a new node -/
theorem tree_new (w : World) (b : Nat) (lv rv : Value) (l r : Tr) (c s k : Int) (hb : b = w.heap.size) (hl : TreeR w lv l) (hr : TreeR w rv r) (hs : s = ((Tr.node l c r).toL.length : Int)) (hk : k = ((Tr.node l c r).tall : Int)) :
    TreeR (w.alloc (.cells #[lv, rv, .int .i64 c, .int .i64 s, .int .i64 k] 182)) (.pointer (some ⟨b, 0, none⟩)) (.node l c r) := by
  subst hb hs hk
  have h := Blk.new w #[lv, rv, .int .i64 c, .int .i64 ((Tr.node l c r).toL.length : Int), .int .i64 ((Tr.node l c r).tall : Int)] 182
  have hb := below1 w (.cells #[lv, rv, .int .i64 c, .int .i64 ((Tr.node l c r).toL.length : Int), .int .i64 ((Tr.node l c r).tall : Int)] 182)
  exact ⟨w.heap.size, lv, rv, rfl, h.cell 0, h.cell 1, h.cell 2, h.cell 3, h.cell 4, hl.below hb, hr.below hb⟩

set_option maxRecDepth 100000 in
set_option maxHeartbeats 1000000 in
theorem rope_made (lp rp : Option Addr) (l r : Tr) (c : Int) (w : World) (hl : TreeR w (.pointer lp) l) (hr : TreeR w (.pointer rp) r) (hsz : l.toL.length + r.toL.length ≤ 100000) :
    Calls Try.prog 158 #[.pointer lp, .int .i64 c, .pointer rp] w (LPost (l.toL ++ c :: r.toL) w) := by
  have h1 := rope_size _ _ _ hl; have h2 := rope_size _ _ _ hr
  have h3 := rope_tall _ _ _ hl; have h4 := rope_tall _ _ _ hr
  have t1 := l.tall_le; have t2 := r.tall_le
  have HL := Lib.hid hl; have HR := Lib.hid hr
  have hsz2 : ((Tr.node l c r).toL.length : Int) = (l.toL.length : Int) + 1 + (r.toL.length : Int) := by simp [Tr.toL]; omega
  have htl2 : ((Tr.node l c r).tall : Int) = 1 + max (l.tall : Int) (r.tall : Int) := by simp only [Tr.tall]; omega
  have HS := Lib.hid hsz2; have HT := Lib.hid htl2
  obtain ⟨sl, hsl⟩ : ∃ n, l.toL.length = n := ⟨_, rfl⟩
  obtain ⟨sr, hsr⟩ : ∃ n, r.toL.length = n := ⟨_, rfl⟩
  obtain ⟨kl, hkl⟩ : ∃ n, l.tall = n := ⟨_, rfl⟩
  obtain ⟨kr, hkr⟩ : ∃ n, r.tall = n := ⟨_, rfl⟩
  rw [hsl] at h1 HS hsz t1; rw [hsr] at h2 HS hsz t2; rw [hkl] at h3 HT t1; rw [hkr] at h4 HT t2
  have hm : kl < kr ∨ kr ≤ kl := by omega
  clear hl hr hsz2 htl2 hsl hsr hkl hkr
  rcases hm with hm | hm
  · have i1 : (kl : Int) < (kr : Int) := by omega
    have i2 : max (kl : Int) (kr : Int) = (kr : Int) := by omega
    go_enter Try.func158, Try.ntmps158
    go_wp2_with fail
    refine h1.mono ?_
    rintro e w1 ⟨rfl, rfl⟩
    go_wp2_with fail
    refine h2.mono ?_
    rintro e w1 ⟨rfl, rfl⟩
    go_wp2_with fail
    refine h3.mono ?_
    rintro e w1 ⟨rfl, rfl⟩
    go_wp2_with fail
    refine h4.mono ?_
    rintro e w1 ⟨rfl, rfl⟩
    go_wp2
    go_ret
    exact ⟨_, _, rfl, tree_new w _ _ _ l r c _ _ rfl HL.out HR.out (by rw [HS.out]) (by rw [HT.out, i2]), rfl, below1 _ _⟩
  · have i1 : (kr : Int) ≤ (kl : Int) := by omega
    have i2 : max (kl : Int) (kr : Int) = (kl : Int) := by omega
    go_enter Try.func158, Try.ntmps158
    go_wp2_with fail
    refine h1.mono ?_
    rintro e w1 ⟨rfl, rfl⟩
    go_wp2_with fail
    refine h2.mono ?_
    rintro e w1 ⟨rfl, rfl⟩
    go_wp2_with fail
    refine h3.mono ?_
    rintro e w1 ⟨rfl, rfl⟩
    go_wp2_with fail
    refine h4.mono ?_
    rintro e w1 ⟨rfl, rfl⟩
    go_wp2
    go_ret
    exact ⟨_, _, rfl, tree_new w _ _ _ l r c _ _ rfl HL.out HR.out (by rw [HS.out]) (by rw [HT.out, i2]), rfl, below1 _ _⟩

end Go.Proofs.Ytmipnikhgihcpaa
