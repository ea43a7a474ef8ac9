/- Contracts of fairref.whole and of the functions within fairref.Take; keys.Take at a wrong part. -/
import Derived.Test.YtmipnikhgihcpaaKey6
namespace Go.Proofs.Ytmipnikhgihcpaa
open Go.RowKit
set_option linter.unusedVariables false
set_option linter.unusedSimpArgs false

set_option maxRecDepth 100000 in
set_option maxHeartbeats 1000000 in
theorem ref_whole (f r o s wt verb arg : Int) (w : World) (h1 : 0 ≤ f) (h2 : f ≤ 999) (h3 : 0 ≤ s) (h4 : s ≤ 999) :
    Calls Try.prog 168 #[.agg #[.int .i64 f, .int .i64 r, .int .i64 o, .int .i64 s, .int .i64 wt], .int .i64 verb, .int .i64 arg] w (CmdPost (totV f s) r o verb arg w) := by
  obtain ⟨m1, m2⟩ := mul_bd h1 h2 h3 h4
  have hacc := fun c1 c2 => below2 w (.cells c1 83) (.cells c2 80)
  by_cases hf : f = 0
  · have HF := Lib.hid (show totV f s = f + s by simp [totV, hf])
    have g1 : (f == 0) = true := by simpa using hf
    clear hf
    go_enter Try.func168, Try.ntmps168
    go_wp2
    all_goals
      rw [HF.out]
      refine bodyPost_ret (v := .agg #[.int .i64 (f + s), .int .i64 r, .int .i64 o, .int .i64 verb, .int .i64 arg]) ?_ rfl ⟨rfl, hacc _ _⟩
      simp [results, Try.results168, go_sem]
      first | done | omega | (simp only [beq_iff_eq] at *; omega)
  · have g1 : (f == 0) = false := by simpa using hf
    by_cases hs : s = 0
    · have HF := Lib.hid (show totV f s = f + s by simp [totV, hf, hs])
      have g2 : (s == 0) = true := by simpa using hs
      clear hf hs
      go_enter Try.func168, Try.ntmps168
      go_wp2
      all_goals
        rw [HF.out]
        refine bodyPost_ret (v := .agg #[.int .i64 (f + s), .int .i64 r, .int .i64 o, .int .i64 verb, .int .i64 arg]) ?_ rfl ⟨rfl, hacc _ _⟩
        simp [results, Try.results168, go_sem]
        first | done | omega | (simp only [beq_iff_eq] at *; omega)
    · have HF := Lib.hid (show totV f s = min 999 (f * s) by simp [totV, hf, hs])
      have g2 : (s == 0) = false := by simpa using hs
      clear hf hs
      go_enter Try.func168, Try.ntmps168
      go_wp2
      all_goals
        rw [HF.out]
        refine bodyPost_ret (v := .agg #[.int .i64 (min 999 (f * s)), .int .i64 r, .int .i64 o, .int .i64 verb, .int .i64 arg]) ?_ rfl ⟨rfl, hacc _ _⟩
        simp [results, Try.results168, go_sem]
        first | done | omega | (simp only [beq_iff_eq] at *; omega)

def T3 (q0 q1 q2 q3 q4 c0 c1 c2 c3 c4 how : Int) (w : World) (e : Ending) (w' : World) : Prop :=
  e = .returned (.tuple #[.agg #[.int .i64 q0, .int .i64 q1, .int .i64 q2, .int .i64 q3, .int .i64 q4], .agg #[.int .i64 c0, .int .i64 c1, .int .i64 c2, .int .i64 c3, .int .i64 c4], .int .i64 how]) ∧ Below w.heap.size w w'

set_option maxRecDepth 100000 in
theorem take_wrong (w : World) : Calls Try.prog 166 #[] w (T3 0 0 0 0 0 0 0 0 0 0 3 w) := by
  have hacc := fun c1 c2 => below2 w (.cells c1 83) (.cells c2 80)
  go_enter Try.func166, Try.ntmps166
  go_wp2
  exact bodyPost_ret (v := .tuple #[.agg #[.int .i64 0, .int .i64 0, .int .i64 0, .int .i64 0, .int .i64 0], .agg #[.int .i64 0, .int .i64 0, .int .i64 0, .int .i64 0, .int .i64 0], .int .i64 3]) (by simp [results, Try.results166, go_sem]) rfl ⟨rfl, hacc _ _⟩

set_option maxRecDepth 100000 in
theorem take_more (f r o s wt : Int) (w : World) : Calls Try.prog 169 #[.agg #[.int .i64 f, .int .i64 r, .int .i64 o, .int .i64 s, .int .i64 wt]] w (T3 f r o s wt 0 0 0 0 0 1 w) := by
  have hacc := fun c1 c2 c3 => below3 w (.cells c1 83) (.cells c2 83) (.cells c3 80)
  go_enter Try.func169, Try.ntmps169
  go_wp2
  exact bodyPost_ret (v := .tuple #[.agg #[.int .i64 f, .int .i64 r, .int .i64 o, .int .i64 s, .int .i64 wt], .agg #[.int .i64 0, .int .i64 0, .int .i64 0, .int .i64 0, .int .i64 0], .int .i64 1]) (by simp [results, Try.results169, go_sem]) rfl ⟨rfl, hacc _ _ _⟩

set_option maxRecDepth 100000 in
set_option maxHeartbeats 1000000 in
theorem take_done (f r o s wt verb arg : Int) (B : Nat) (w : World) (hp : Blk w B #[.int .i64 f, .int .i64 r, .int .i64 o, .int .i64 s, .int .i64 wt] 83) (h1 : 0 ≤ f) (h2 : f ≤ 999) (h3 : 0 ≤ s) (h4 : s ≤ 999) :
    Calls Try.prog 167 #[.int .i64 verb, .int .i64 arg, .pointer (some ⟨B, 0, none⟩)] w (T3 0 0 0 0 0 (totV f s) r o verb arg 2 w) := by
  have hB := hp.lt
  have hP := (hp.alloc (.cells #[.int .i64 0, .int .i64 0, .int .i64 0, .int .i64 0, .int .i64 0] 83)).alloc (.cells #[.int .i64 0, .int .i64 0, .int .i64 0, .int .i64 0, .int .i64 0] 80)
  have hQ := (Blk.new w #[.int .i64 0, .int .i64 0, .int .i64 0, .int .i64 0, .int .i64 0] 83).alloc (.cells #[.int .i64 0, .int .i64 0, .int .i64 0, .int .i64 0, .int .i64 0] 80)
  have hC := Blk.new (w.alloc (.cells #[.int .i64 0, .int .i64 0, .int .i64 0, .int .i64 0, .int .i64 0] 83)) #[.int .i64 0, .int .i64 0, .int .i64 0, .int .i64 0, .int .i64 0] 80
  rw [World.size_alloc] at hC
  have hacc := below2 w (.cells #[.int .i64 0, .int .i64 0, .int .i64 0, .int .i64 0, .int .i64 0] 83) (.cells #[.int .i64 0, .int .i64 0, .int .i64 0, .int .i64 0, .int .i64 0] 80)
  go_enter Try.func167, Try.ntmps167
  go_upto_region 1 with fail
  generalize (w.alloc (.cells #[.int .i64 0, .int .i64 0, .int .i64 0, .int .i64 0, .int .i64 0] 83)).alloc (.cells #[.int .i64 0, .int .i64 0, .int .i64 0, .int .i64 0, .int .i64 0] 80) = w1 at *
  obtain ⟨c0, c1, c2, c3, c4⟩ := hP.five
  obtain ⟨k0, k1, k2, k3, k4⟩ := hQ.five
  obtain ⟨l0, l1, l2, l3, l4⟩ := hQ.fiveF
  obtain ⟨m0, m1, m2, m3, m4⟩ := hC.five
  obtain ⟨n0, n1, n2, n3, n4⟩ := hC.fiveF
  go_wp2_with (go_at_call 168; refine (ref_whole _ _ _ _ _ _ _ _ h1 h2 h3 h4).mono ?_; rintro e w9 ⟨rfl, hb⟩; have hQ9 := hQ.below hb hQ.lt; have hC9 := hC.below hb hC.lt; have hacc9 := below_then hacc hacc.size hb; obtain ⟨k0, k1, k2, k3, k4⟩ := hQ9.five; obtain ⟨l0, l1, l2, l3, l4⟩ := hQ9.fiveF; obtain ⟨m0, m1, m2, m3, m4⟩ := hC9.five; obtain ⟨n0, n1, n2, n3, n4⟩ := hC9.fiveF)
  have hne : ∀ i, w.heap.size ≠ (⟨w.heap.size + 1, i, none⟩ : Addr).block := fun i => by simp
  have hne2 : ∀ i, w.heap.size + 1 ≠ (⟨w.heap.size, i, none⟩ : Addr).block := fun i => by simp
  obtain ⟨y0, y1, y2, y3, y4⟩ := ((((((hQ9.set5 (.int .i64 0) (.int .i64 0) (.int .i64 0) (.int .i64 0) (.int .i64 0)).other (hne 0) (.int .i64 (totV f s))).other (hne 1) (.int .i64 r)).other (hne 2) (.int .i64 o)).other (hne 3) (.int .i64 verb)).other (hne 4) (.int .i64 arg)).five
  obtain ⟨z0, z1, z2, z3, z4⟩ := (((((((hC9.other (hne2 0) (.int .i64 0)).other (hne2 1) (.int .i64 0)).other (hne2 2) (.int .i64 0)).other (hne2 3) (.int .i64 0)).other (hne2 4) (.int .i64 0))).set5 (.int .i64 (totV f s)) (.int .i64 r) (.int .i64 o) (.int .i64 verb) (.int .i64 arg)).five
  exact bodyPost_ret (v := .tuple #[.agg #[.int .i64 0, .int .i64 0, .int .i64 0, .int .i64 0, .int .i64 0], .agg #[.int .i64 (totV f s), .int .i64 r, .int .i64 o, .int .i64 verb, .int .i64 arg], .int .i64 2]) (by simp [results, Try.results167, go_sem, y0, y1, y2, y3, y4, z0, z1, z2, z3, z4]) rfl ⟨rfl, below_set5 (below_set5 hacc9 (by omega)) (by omega)⟩

set_option maxRecDepth 100000 in
set_option maxHeartbeats 1000000 in
theorem keys_take_bad (f r o s wt key : Int) (w : World) (hp : partE f r o s wt ≠ 0) :
    Calls Try.prog 118 #[.agg #[.int .i64 f, .int .i64 r, .int .i64 o, .int .i64 s, .int .i64 wt], .int .i64 key] w (TakPost ⟨0, 0, 0, 0, 0, 0, 0, 0, 0, 0, 0⟩ (partE f r o s wt) w) := by
  have hX := Box3.start w f r o s wt
  have hp1 : partE f r o s wt = 1 := by
    unfold partE at hp ⊢; split <;> simp_all
  rw [hp1]
  have HP := Lib.hid hp1
  clear hp hp1
  go_enter Try.func118, Try.ntmps118
  go_wp2_with (go_at_call 161; refine (keys_check _ _ _ _ _ _).mono ?_; rintro e w9 ⟨rfl, hb⟩; rw [HP.out]; have hX1 := hX.below hb; obtain ⟨k0, k1, k2, k3, k4⟩ := hX1.q.five; obtain ⟨l0, l1, l2, l3, l4⟩ := hX1.q.fiveF; obtain ⟨m0, m1, m2, m3, m4⟩ := hX1.c.five; obtain ⟨n0, n1, n2, n3, n4⟩ := hX1.c.fiveF)
  obtain ⟨hq, hc, hbel⟩ := hX1.done (.int .i64 0) (.int .i64 0) (.int .i64 0) (.int .i64 0) (.int .i64 0) (.int .i64 0) (.int .i64 0) (.int .i64 0) (.int .i64 0) (.int .i64 0) rfl
  obtain ⟨y0, y1, y2, y3, y4⟩ := hq.five
  obtain ⟨z0, z1, z2, z3, z4⟩ := hc.five
  exact bodyPost_ret (v := .tuple #[TK.q ⟨0, 0, 0, 0, 0, 0, 0, 0, 0, 0, 0⟩, TK.c ⟨0, 0, 0, 0, 0, 0, 0, 0, 0, 0, 0⟩, .int .i64 0, .int .i64 1]) (by simp [results, Try.results118, go_sem, TK.q, TK.c, y0, y1, y2, y3, y4, z0, z1, z2, z3, z4]) rfl (TakPost.of hbel)

end Go.Proofs.Ytmipnikhgihcpaa
