/- Contract of fairref.Applied. -/
import Derived.Test.YtbgbcmfgncneiaaSpl3
namespace Go.Proofs.Ytbgbcmfgncneiaa
open Go.RowKit
set_option linter.unusedVariables false
set_option linter.unusedSimpArgs false

theorem Good.takeN {n : Int} {es : List Sp} : ∀ {last : Int}, Good n last es → ∀ k, Good n last (es.take k) := by
  induction es with
  | nil => intro last h k; simp; trivial
  | cons s r ih =>
    intro last h k
    match k with
    | 0 => trivial
    | k + 1 =>
      obtain ⟨a, b, c, d, e, g⟩ := h
      exact ⟨a, b, c, d, e, ih g k⟩
theorem Good.dropL {n : Int} {es : List Sp} : ∀ {last : Int}, Good n last es → ∀ k, ∃ L, Good n L (es.drop k) ∧ last ≤ L ∧ (0 < k → k ≤ es.length → L = (sp es (k - 1)).t) ∧ (k = 0 → L = last) := by
  induction es with
  | nil => intro last h k; exact ⟨last, by simp; trivial, by omega, fun h1 h2 => by simp at h2; omega, fun _ => rfl⟩
  | cons s r ih =>
    intro last h k
    match k with
    | 0 => exact ⟨last, h, by omega, fun h1 => by omega, fun _ => rfl⟩
    | k + 1 =>
      obtain ⟨a, b, c, d, e, g⟩ := h
      obtain ⟨L, h1, h2, h3, h4⟩ := ih g k
      refine ⟨L, h1, by omega, fun _ hk => ?_, fun h => by omega⟩
      rcases Nat.eq_zero_or_pos k with rfl | hp
      · rw [h4 rfl]; rfl
      · rw [h3 hp (by simpa using hk)]
        have : k + 1 - 1 = (k - 1) + 1 := by omega
        rw [this]; simp [sp]
/-- what the splices from a place on can add -/
theorem grow_drop {n : Int} {es : List Sp} (h0 : 0 ≤ n) (h : Good n (-1) es) (k : Nat) : grow (es.drop k) ≤ grow es + n := by
  have h1 := grow_lo h0 (h.takeN k) (by omega) (by omega)
  have h2 : grow es = grow (es.take k) + grow (es.drop k) := by rw [← grow_append, List.take_append_drop]
  omega

def AppPost (l : List Int) (es : List Sp) (w : World) (e : Ending) (w' : World) : Prop := ∃ v, e = .returned v ∧ Own 3 w.heap.size w' v (apP l 0 es) ∧ Below w.heap.size w w'
theorem keepC3 {W w1 w2 : World} {a b c : Addr} {u v x : Value} (h : w1.cell? a = some u ∧ w1.cell? b = some v ∧ w1.cell? c = some x ∧ Below W.heap.size W w1) (hb : Below w1.heap.size w1 w2) :
    w2.cell? a = some u ∧ w2.cell? b = some v ∧ w2.cell? c = some x ∧ Below W.heap.size W w2 :=
  ⟨below_keeps hb _ _ h.1, below_keeps hb _ _ h.2.1, below_keeps hb _ _ h.2.2.1, below_then h.2.2.2 h.2.2.2.size hb⟩

set_option maxRecDepth 100000 in
set_option maxHeartbeats 2000000 in
theorem ref_applied (la a : Option Addr) (n c m mc : Nat) (l : List Int) (es : List Sp) (w : World) (hl : Ints w la l) (hn : l.length = n) (ha : la = none → n = 0)
    (he : Spls w a es) (hm : es.length = m) (hm2 : m ≤ 9223372036854775807) (hn2 : n ≤ 4096) (hg : Good (n : Int) (-1) es) (hgr : (n : Int) + grow es ≤ 4096) :
    Calls Try.prog 45 #[.slice la n c, .slice a m mc] w (AppPost l es w) := by
  have hcnt := hg.count (by omega)
  rw [hm] at hcnt
  have HG := Lib.hid hg
  have HN := Lib.hid hn
  have HM := Lib.hid hm
  have HA0 := Lib.hid ha
  clear hg hn hm ha
  go_enter Try.func45, Try.ntmps45
  go_wp2_with fail
  refine (slices_clone la n c l w hl HN.out (by omega) HA0.out).mono ?_
  rintro e w1 ⟨v1, rfl, o1, hb⟩
  go_wp2
  go_loopw [5, 6] (fun v i wr => ∃ k : Nat, i = .int .i64 ((k : Int) - 1) ∧ k ≤ m ∧ Own 3 w.heap.size wr v (apP l 0 (es.drop k)) ∧ Below w.heap.size w wr) (fun _ i _ => ((intOf i) + 1).toNat)
  case atStart => exact ⟨m, rfl, by omega, by rw [List.drop_eq_nil_of_le (by rw [HM.out]; omega)]; simpa [apP] using o1, hb⟩
  case round =>
    clear hb o1
    obtain ⟨k, rfl, hk, hown, hbr⟩ := hrel
    by_cases hlt : 0 < k
    · obtain ⟨j, rfl⟩ : ∃ j, k = j + 1 := ⟨k - 1, by omega⟩
      have hjm : j < es.length := by rw [HM.out]; omega
      obtain ⟨b1, o1, rfl, hcc⟩ := he.at (k := j) hjm
      obtain ⟨ax, cx, c0, c1, c2, cI, y1, y2, y3⟩ := hcc j hjm
      replace c0 := below_keeps hbr _ _ c0
      replace c1 := below_keeps hbr _ _ c1
      replace c2 := below_keeps hbr _ _ c2
      replace cI := cI.below hbr
      obtain ⟨L, hgl, hL1, -, -⟩ := HG.out.dropL j
      rw [drop_sp hjm] at hgl
      have hd := drop_sp (es := es) (i := j) hjm
      have hgd := grow_drop (by omega) HG.out (j + 1)
      generalize sp es j = s at *
      obtain ⟨f, t, x⟩ := s
      simp only at c0 c1 c2 cI y1 y2 y3
      obtain ⟨z1, z2, z3, -, z4, hg2⟩ := hgl
      simp only at z1 z2 z3 z4 hg2
      obtain ⟨F, rfl⟩ := Int.eq_ofNat_of_zero_le (show 0 ≤ f by omega)
      obtain ⟨T, rfl⟩ := Int.eq_ofNat_of_zero_le (show 0 ≤ t by omega)
      have hhd : ∀ s' ∈ (es.drop (j + 1)).head?, (T : Int) ≤ s'.f := by
        intro s' hs'
        cases hr : es.drop (j + 1) with
        | nil => rw [hr] at hs'; simp at hs'
        | cons s2 r2 =>
          rw [hr] at hs' hg2
          simp at hs'; subst hs'
          have := hg2.1; omega
      have hrd := apP_round (l := l) (s := ⟨F, T, x⟩) (r := es.drop (j + 1)) z2 (by simp) (by rw [HN.out]; simp; omega) hhd
      simp only [Int.toNat_natCast] at hrd
      rw [← hd] at hrd
      have hlen := apP_len (l := l) (es := es.drop (j + 1)) (last := T) (at' := 0) (by rw [HN.out]; exact hg2) (by omega) (fun s' hs' => by have := hhd s' hs'; omega) (.inl (by omega))
      have hcutl : apP l 0 (es.drop (j + 1)) = l.take T ++ apP l T (es.drop (j + 1)) := apP_cut fun s' hs' => by have := hhd s' hs'; omega
      have hTl : T ≤ (apP l 0 (es.drop (j + 1))).length := by rw [hcutl, List.length_append, List.length_take, HN.out]; omega
      generalize apP l 0 (es.drop (j + 1)) = q at *
      obtain ⟨av, nv, cv, rfl⟩ := hown.form
      obtain ⟨q1, q2, q3⟩ := hown.get
      have hav : av = none → nv = 0 := by
        rintro rfl
        rcases hown.2 with ⟨h1, h2⟩ | ⟨g2, cap2, cur2, h1, _⟩
        · rw [← q1]; exact h2
        · simp at h1
      have hq8 : q.length ≤ 8192 := by rw [HN.out] at hlen; omega
      have hr1 := cut_run_to av nv cv F (by omega)
      have hr2 := cut_run_end av nv cv T (by omega)
      have hi0 : Ints wr av (q.take F) := q2.take F
      have hi2 : Ints wr (cutA av cv T) (q.drop T) := q2.cutEnd T (by omega) hTl
      have L0 := Lib.hid (show (q.take F).length = F by rw [List.length_take]; omega)
      have L2 := Lib.hid (show (q.drop T).length = nv - T by rw [List.length_drop, q1])
      have Z0 := Lib.hid (show av = none → F = 0 from fun h => by have := hav h; omega)
      have Z2 := Lib.hid (show cutA av cv T = none → nv - T = 0 from fun h => by have := hav (cutA_none h); omega)
      have HRD := Lib.hid hrd
      have N1 : nv - T ≤ 8192 := by omega
      have N0 : F ≤ 8192 := by omega
      have N2 : x.length ≤ 8192 := by omega
      have hcat := (catIn3 wr 35 cv cx (cv - T) hi0 cI hi2 L0.out rfl L2.out N0 N2 N1 Z0.out y3 Z2.out).drew
      clear hrd hcutl hlen hgd hhd hd hav q1 q2 HG
      have i3 : (0 : Int) ≤ (j : Int) + 1 - 1 := by omega
      have iw : IntKind.i64.wrap ((j : Int) + 1 - 1) = (j : Int) := by rw [IntWalk.i64_in _ (by omega)]; omega
      have i5 : (j : Int) < (m : Int) := by omega
      have ie : ((j + 1 : Nat) : Int) - 1 = (j : Int) := by omega
      rw [ie]
      go_upto_region 5 with fail
      go_region_held3 (fun w' => w'.cell? ⟨b1, o1 + j * 3, none⟩ = some (.int .i64 (F : Int)) ∧ w'.cell? ⟨b1, o1 + j * 3 + 1, none⟩ = some (.int .i64 (T : Int)) ∧ w'.cell? ⟨b1, o1 + j * 3 + 2, none⟩ = some (.slice ax x.length cx) ∧ Below wr.heap.size wr w') (first | exact ⟨c0, c1, c2, (Below.refl _ _).drew⟩ | assumption | exact keepC3 ‹_› (below1 _ _) | exact keepC3 ‹_› ‹_›)
        ((go_at_call 90; refine (slices_concat _ 3 _ _ _ _ _ hcat (by omega)).mono ?_; rintro e w8 ⟨v8, rfl, o8, hb8⟩; rw [joinX3, HRD.out] at o8))
      all_goals
        have hb9 := below_then hbr hbr.size (And.right (And.right (And.right ‹_›)))
        go_wp2
        go_roundw
        case rel => exact ⟨j, by go_num, by omega, o8.mono (size_alloc_le hbr.size _), hb9⟩
        case measure => simp [intOf] <;> omega
    · obtain rfl : k = 0 := by omega
      have hlen := apP_len (l := l) (es := es) (last := -1) (at' := 0) (by rw [HN.out]; exact HG.out) (by omega) (by
        intro s hs
        cases es with
        | nil => simp at hs
        | cons s' r => simp at hs; subst hs; have := HG.out.1; omega) (.inr rfl)
      rw [List.drop_zero] at hown
      obtain ⟨av, nv, cv, rfl⟩ := hown.form
      go_wp2
      go_ret
      exact ⟨_, rfl, hown, hbr⟩

end Go.Proofs.Ytbgbcmfgncneiaa
