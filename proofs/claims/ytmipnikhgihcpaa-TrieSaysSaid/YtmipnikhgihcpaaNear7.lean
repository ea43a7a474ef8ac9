/- Contract of (*near.Tree).within: the walk. -/
import Derived.Test.YtmipnikhgihcpaaNear6
import Derived.Deep.DeepCutAuto
import Derived.Deep.CutBlock
namespace Go.Proofs.Ytmipnikhgihcpaa
open Go.RowKit
set_option linter.unusedVariables false
set_option linter.unusedSimpArgs false

/-- what was found so far: of the node itself, and of the kids seen -/
def SoFar (A : List Nd) (wd : List Int) (most i : Nat) (seen : Array Nat) (L : List Nat) : Prop :=
  ∀ x, x ∈ L ↔ x < A.length ∧ dst (nd A x).wd wd ≤ most ∧ (x = i ∨ ∃ q c, q ∈ seen ∧ (kidsOf A i)[q]? = some c ∧ Anc A c x)
theorem SoFar.all {A : List Nd} (hI : Inv A) {wd : List Int} {most i : Nat} {seen : Array Nat} {L : List Nat} (hi : i < A.length) (h : SoFar A wd most i seen L) (ha : ∀ q, q < (kidsOf A i).length → q ∈ seen) : ∀ x, x ∈ L ↔ x < A.length ∧ Anc A i x ∧ dst (nd A x).wd wd ≤ most := by
  intro x
  rw [h x]
  constructor
  · rintro ⟨h1, h2, h3⟩
    refine ⟨h1, ?_, h2⟩
    rcases h3 with rfl | ⟨q, c, _, hc, g⟩
    · exact .refl
    · exact g.up (List.mem_of_getElem? hc)
  · rintro ⟨h1, h2, h3⟩
    refine ⟨h1, h3, ?_⟩
    rcases h2.down h1 hI.par with e | ⟨c, hc, g⟩
    · exact .inl e
    · obtain ⟨q, hq⟩ := List.getElem?_of_mem hc
      exact .inr ⟨q, c, ha q (List.getElem?_eq_some_iff.1 hq).1, hq, g⟩
theorem SoFar.skip {A : List Nd} (hI : Inv A) {wd : List Int} {most i q c : Nat} {seen : Array Nat} {L : List Nat} (h : SoFar A wd most i seen L) (hq : (kidsOf A i)[q]? = some c) (hn : ¬ ((nd A c).key ≤ dst (nd A i).wd wd + most ∧ dst (nd A i).wd wd ≤ (nd A c).key + most)) : SoFar A wd most i (seen.push q) L := by
  intro x
  rw [h x]
  constructor
  · rintro ⟨h1, h2, h3⟩
    refine ⟨h1, h2, h3.imp id fun ⟨q', c', g1, g2, g3⟩ => ⟨q', c', by simp [g1], g2, g3⟩⟩
  · rintro ⟨h1, h2, h3⟩
    refine ⟨h1, h2, ?_⟩
    rcases h3 with e | ⟨q', c', g1, g2, g3⟩
    · exact .inl e
    · rw [Array.mem_push] at g1
      rcases g1 with g1 | rfl
      · exact .inr ⟨q', c', g1, g2, g3⟩
      · rw [hq] at g2
        obtain rfl : c = c' := Option.some.inj g2
        exact absurd (hI.prune (List.mem_of_getElem? hq) h1 g3 h2) hn
theorem SoFar.more {A : List Nd} {wd : List Int} {most i q c : Nat} {seen : Array Nat} {L L2 : List Nat} (h : SoFar A wd most i seen L) (hq : (kidsOf A i)[q]? = some c) (h2 : ∀ x, x ∈ L2 ↔ x < A.length ∧ Anc A c x ∧ dst (nd A x).wd wd ≤ most) : SoFar A wd most i (seen.push q) (L ++ L2) := by
  intro x
  rw [List.mem_append, h x, h2 x]
  constructor
  · rintro (⟨h1, h2, h3⟩ | ⟨h1, h2, h3⟩)
    · exact ⟨h1, h2, h3.imp id fun ⟨q', c', g1, g2, g3⟩ => ⟨q', c', by simp [g1], g2, g3⟩⟩
    · exact ⟨h1, h3, .inr ⟨q, c, by simp, hq, h2⟩⟩
  · rintro ⟨h1, h2, h3⟩
    rcases h3 with e | ⟨q', c', g1, g2, g3⟩
    · exact .inl ⟨h1, h2, .inl e⟩
    · rw [Array.mem_push] at g1
      rcases g1 with g1 | rfl
      · exact .inl ⟨h1, h2, .inr ⟨q', c', g1, g2, g3⟩⟩
      · rw [hq] at g2
        obtain rfl : c = c' := Option.some.inj g2
        exact .inr ⟨h1, g3, h2⟩
theorem SoFar.first {A : List Nd} {wd : List Int} {most i : Nat} (hi : i < A.length) (b : Bool) (hb : b = decide (dst (nd A i).wd wd ≤ most)) : SoFar A wd most i #[] (if b = true then [i] else []) := by
  intro x
  subst hb
  by_cases hd : dst (nd A i).wd wd ≤ most
  · rw [if_pos (by simpa using hd), List.mem_singleton]
    constructor
    · rintro rfl; exact ⟨hi, hd, .inl rfl⟩
    · rintro ⟨h1, h2, e | ⟨q, c, g, _⟩⟩
      · exact e
      · simp at g
  · rw [if_neg (by simpa using hd)]
    constructor
    · intro h; cases h
    · rintro ⟨h1, h2, rfl | ⟨q, c, g, _⟩⟩
      · exact absurd h2 hd
      · simp at g
/-- what was found lies not under a kid that was not seen -/
theorem SoFar.fresh {A : List Nd} (hI : Inv A) {wd : List Int} {most i q c : Nat} {seen : Array Nat} {E L : List Nat} (h : SoFar A wd most i seen L) (hE : ∀ x ∈ E, x < A.length ∧ ¬ Anc A i x) (hq : (kidsOf A i)[q]? = some c) (hs : q ∉ seen) : ∀ x ∈ E ++ L, x < A.length ∧ ¬ Anc A c x := by
  intro x hx
  have hc := List.mem_of_getElem? hq
  obtain ⟨g1, g2, g3⟩ := mem_kids.1 hc
  rcases List.mem_append.1 hx with hx | hx
  · exact ⟨(hE x hx).1, fun g => (hE x hx).2 (g.up hc)⟩
  · obtain ⟨h1, h2, h3⟩ := (h x).1 hx
    refine ⟨h1, fun g => ?_⟩
    rcases h3 with rfl | ⟨q', c', f1, f2, f3⟩
    · have := g.le hI.par h1
      have := hI.par c g2 g1
      omega
    · obtain ⟨k1, k2, k3⟩ := mem_kids.1 (List.mem_of_getElem? f2)
      have e := hI.apart g2 k2 h1 g f3 (g3.trans k3.symm)
      subst e
      have hn := kids_nodup A i
      obtain ⟨l1, e1⟩ := List.getElem?_eq_some_iff.1 hq
      obtain ⟨l2, e2⟩ := List.getElem?_eq_some_iff.1 f2
      have : q = q' := (List.getElem_inj hn).1 (e1.trans e2.symm)
      subst this
      exact hs f1

theorem IterB.seenIs {w : World} {r b s c : Nat} {seen : Array Nat} (h : IterB w r b s seen c) : w.iterSeen r = seen := by
  unfold World.iterSeen
  rw [show w.heap[r]? = _ from h]
theorem NOwn.grownI {base : Nat} {w w' : World} {v : Value} {es : List N2} {r b s c : Nat} {seen : Array Nat} (h : NOwn base w v es) (hg : w.grownBy w' (some r)) (hI : IterB w r b s seen c) : NOwn base w' v es := by
  refine World.ownsRow.kept h hg (.inr fun e => ?_)
  rcases h.2 with ⟨rfl, _⟩ | ⟨g, cap, cur, rfl, hb', hgg, rest⟩
  · simp [Value.ownBlock] at e
  · simp only [Value.ownBlock, Option.some.injEq] at e
    subst e
    rw [show w.heap[g]? = _ from hI] at hgg
    cases hgg

set_option maxRecDepth 100000 in
set_option maxHeartbeats 4000000 in
theorem near_within (w0 : World) (bs : Nat) (A : List Nd) (B M : Nat → Nat) (hI : Inv A) (h100 : A.length ≤ 100) (wd : List Int) (a : Option Addr) (m c : Nat) (hT : Ints w0 a wd) (hm : wd.length = m) (hm2 : m ≤ 24) (most : Nat) (hmost : most ≤ 200) (hA : ∀ x, x < A.length → (nd A x).wd.length ≤ 24) : ∀ (k i : Nat), A.length - i ≤ k → i < A.length → ∀ (w : World) (v : Value) (E : List Nat), Below w0.heap.size w0 w → ArH w bs A B M → NOwn w0.heap.size w v (E.map (nearN A wd)) → E.Nodup → (∀ x ∈ E, x < A.length ∧ ¬ Anc A i x) →
    Calls Try.prog 130 #[.pointer (some ⟨B i, 0, none⟩), .slice a m c, .int .i64 (most : Int), v] w (WiPost w0.heap.size A wd most i E w)
  | 0, i, hk, hi, w, v, E, hb, hH, hv, hE, hE2 => by omega
  | k + 1, i, hk, hi, w, v, E, hb, hH, hv, hE, hE2 => by
    obtain ⟨si, hB, hsi⟩ := hH.blk i hi
    obtain ⟨a', m', c', rfl⟩ := hsi.form
    obtain ⟨e1, hT1, -⟩ := hsi.get
    obtain ⟨va, vc, hvf, -⟩ := hv.form
    obtain ⟨nl, hnl⟩ : ∃ nl, (E.map (nearN A wd)).length = nl := ⟨_, rfl⟩
    rw [hnl] at hvf
    subst hvf
    clear hnl
    obtain ⟨y0, y1, y2, -, -, -⟩ := hB.three
    have hd := dst_top (nd A i).wd wd
    have hai := hA i hi
    have HF := Lib.hid (near_far a' a m' m c' c (nd A i).wd wd w hT1 (hT.below hb) e1 hm (by omega) (by omega))
    have hd2 : dst (nd A i).wd wd ≤ 48 := by omega
    obtain ⟨d, hdd⟩ : ∃ d, dst (nd A i).wd wd = d := ⟨_, rfl⟩
    have HD := Lib.hid hdd
    rw [hdd] at HF hd2
    have HH := Lib.hid hH; have HV := Lib.hid hv; have HB := Lib.hid hB; have HE := Lib.hid hE; have HE2 := Lib.hid hE2; have HBW := Lib.hid hb
    have HIH := Lib.hid (near_within w0 bs A B M hI h100 wd a m c hT hm hm2 most hmost hA k)
    have hbs := hb.size
    clear hd hai e1 hT1 hsi hH hv hB hE hE2 hb hdd hT
    go_enter Try.func130, Try.ntmps130
    go_upto_region 2 with (go_at_call 67; go_loud (refine (HF.out).mono ?_; rintro e w3 ⟨rfl, hb3⟩))
    have hk3 : NKeep w0.heap.size w w3 := NKeep.of hb3 hbs
    have hH3 := HH.out.nk hk3
    have hv3 := HV.out.kept hb3
    have hbs3 : w0.heap.size ≤ w3.heap.size := Nat.le_trans hbs hb3.size
    have hB3 := HB.out.nk hk3 (by decide)
    have HK3 := Lib.hid hk3; have HH3 := Lib.hid hH3
    clear y0 y1 y2 hk3 hH3
    obtain ⟨y0, y1, y2, -, -, -⟩ := hB3.three
    have hel : (E.map (nearN A wd)).length < 1048576 := by
      have := nodup_len A.length E HE.out fun x hx => (HE2.out x hx).1
      rw [List.length_map]; omega
    obtain ⟨b, hbd⟩ : ∃ b, b = decide (d ≤ most) := ⟨_, rfl⟩
    have HBD := Lib.hid hbd
    have hbi : decide ((d : Int) ≤ (most : Int)) = b := by rw [hbd]; simp only [Int.ofNat_le]
    clear hbd
    go_cut [24] (fun v wx => v = .bool b ∧ w3 = wx)
    case first =>
      go_wp2
      go_meet
      exact ⟨by rw [HBD.out], rfl⟩
    obtain ⟨rfl, rfl⟩ := hcut
    clear hbi
    go_upto_if 24 with fail
    go_cut [3] (fun v wx => ∃ L, NOwn w0.heap.size wx v ((E ++ L).map (nearN A wd)) ∧ (E ++ L).Nodup ∧ SoFar A wd most i #[] L ∧ NKeep w0.heap.size w3 wx)
    case first =>
      cases b with
      | true =>
        go_wp2_with (at_builtin; go_loud (refine napp1 rfl _ _ rfl w0.heap.size _ (E.map (nearN A wd)) ⟨(i : Int), (d : Int)⟩ w3.heap.size rfl rfl (hv3.alloc _) (Blk.new _ _ _) hel (by rw [World.size_alloc]; exact Nat.le_succ_of_le hbs3) ?_; intro v4 w4 h4 hg4))
        go_meet
        refine ⟨[i], ?_, ?_, ?_, ?_⟩
        · rw [List.map_append]
          simpa [nearN, HD.out] using h4
        · rw [List.nodup_append]
          exact ⟨HE.out, by simp, fun x hx y hy => by rw [List.mem_singleton] at hy; subst hy; rintro rfl; exact (HE2.out _ hx).2 .refl⟩
        · have := SoFar.first (A := A) (wd := wd) (most := most) hi true (by rw [HD.out]; exact HBD.out)
          simpa using this
        · exact (NKeep.of (below1 w3 _) hbs3).trans (NKeep.grown (hv3.alloc _) (by rw [World.size_alloc]; omega) hg4)
      | false =>
        go_wp2
        go_meet
        refine ⟨[], by rw [List.append_nil]; exact hv3, by rw [List.append_nil]; exact HE.out, ?_, NKeep.refl _ _⟩
        have := SoFar.first (A := A) (wd := wd) (most := most) hi false (by rw [HD.out]; exact HBD.out)
        simpa using this
    obtain ⟨L0, hv4, hn4, hs4, hk4⟩ := hcut
    have hk04 := HK3.out.trans hk4
    have hH4 := HH3.out.nk hk4
    have hB4 := hB3.nk hk4 (by decide)
    have hM4 := hH4.map i hi
    have hsz4 : w.heap.size ≤ wc.heap.size := hk04.below.size
    have hMs : M i < wc.heap.size := hM4.lt
    clear y0 y1 y2 hB3 HK3 HH3 hel HB hv3 hbs3 HF HBD
    obtain ⟨y0, y1, y2, -, -, -⟩ := hB4.three
    obtain ⟨cnt, hcnt⟩ : ∃ cnt, (kidsOf A i).length = cnt := ⟨_, rfl⟩
    rw [hcnt] at hM4
    have HCNT := Lib.hid hcnt
    have hrg := run_range_map (P := Try.prog) wc 204 3 106 (M i) (kidE A B i) cnt Try.underlying204 hM4
    have hk5 : NKeep w0.heap.size w (wc.alloc (.mapIter (some (M i)) cnt #[] cnt)) := hk04.trans (NKeep.of (below1 wc _) (Nat.le_trans hbs hsz4))
    have hIt0 : IterB (wc.alloc (.mapIter (some (M i)) cnt #[] cnt)) wc.heap.size (M i) cnt #[] cnt := heap_alloc_new wc _
    have HIT0 := Lib.hid hIt0; have HK5 := Lib.hid hk5; have HV4 := Lib.hid (hv4.alloc (.mapIter (some (M i)) cnt #[] cnt)); have HN4 := Lib.hid hn4; have HS4 := Lib.hid hs4
    have hrM : wc.heap.size ≠ M i := by omega
    clear hcnt hIt0 hk5 hv4 hn4 hs4 hk4 hk04 hH4 hB4 hM4 hMs
    go_wp2
    clear hrg y0 y1 y2
    obtain ⟨r, hr⟩ : ∃ r, wc.heap.size = r := ⟨_, rfl⟩
    rw [hr] at hsz4 hrM HIT0 ⊢
    clear hr
    go_loopw [3] (fun v wr => ∃ seen L, IterB wr r (M i) cnt seen cnt ∧ NOwn w0.heap.size wr v ((E ++ L).map (nearN A wd)) ∧ (E ++ L).Nodup ∧ SoFar A wd most i seen L ∧ NKeep w0.heap.size w wr) (fun _ wr => (leftOf (kidE A B i) (wr.iterSeen r)).size)
    case atStart => exact ⟨#[], L0, HIT0.out, HV4.out, HN4.out, HS4.out, HK5.out⟩
    case round =>
      clear HIT0 HV4 HN4 HS4 HK5
      obtain ⟨seen, L, hIt, hv, hn, hs, hk⟩ := hrel
      have hmp := (HH.out.map i hi).nk hk
      rw [HCNT.out] at hmp
      have HIT := Lib.hid hIt; have HMP := Lib.hid hmp; have HVV := Lib.hid hv; have HN := Lib.hid hn; have HS := Lib.hid hs; have HK := Lib.hid hk
      have HSEEN := Lib.hid (show wr.iterSeen r = seen by unfold World.iterSeen; rw [show wr.heap[r]? = _ from hIt])
      have hdum : True := trivial
      clear hIt hv hn hs hk hmp
      go_wp2_with (show wpList _ _ _ (⟨some 39, _, _, _, _, _⟩ :: _) _ _; revert hdum)
      intro hdum
      refine next_at2 rfl _ rfl r (M i) cnt cnt seen (kidE A B i) rfl HIT.out HMP.out (fun x hx => by have := kidE_lt x hx; rwa [HCNT.out] at this) (Nat.le_refl _) (kidE_nodup A B i) hrM ?_ ?_
      · intro h0
        have HALL := Lib.hid (show ∀ q, q < (kidsOf A i).length → q ∈ seen from fun q hq => by
          have : q ∈ (kidE A B i).toList.map (·.born) := by rw [kidE_born]; exact List.mem_range.2 hq
          obtain ⟨e, he, rfl⟩ := List.mem_map.1 this
          exact h0 e he)
        clear h0
        simp only [Act.put, List.setIfInBounds_toArray, List.set_cons_succ, List.set_cons_zero]
        go_wp2
        go_ret
        exact ⟨_, L, rfl, HVV.out, HN.out, HS.out.all hI hi HALL.out, HK.out⟩
      · intro en w9 hen hns hIt9 hMp9 hlt9 hbel9 hgr9 hent
        obtain ⟨q, x, hq, rfl⟩ := kidE_mem.1 hen
        dsimp only at hns hlt9 hIt9 hent
        obtain ⟨kx, hkx⟩ : ∃ kx, (nd A x).key = kx := ⟨_, rfl⟩
        rw [hkx] at hent
        have hk9 := HK.out.iter hsz4 hbs hgr9
        have hv9 : NOwn w0.heap.size w9 _ _ := HVV.out.grownI hgr9 HIT.out
        have HQ := Lib.hid hq; have HNS := Lib.hid hns; have HLT := Lib.hid hlt9; have HIT9 := Lib.hid hIt9; have HK9 := Lib.hid hk9; have HV9 := Lib.hid hv9; have HKX := Lib.hid hkx
        clear hen hns hlt9 hbel9 hgr9 hMp9 hIt9 hk9 hv9 hq hkx
        simp only [Act.put, List.setIfInBounds_toArray, List.set_cons_succ, List.set_cons_zero]
        by_cases h1 : (d : Int) - (most : Int) ≤ (kx : Int)
        · by_cases h2 : (kx : Int) ≤ (d : Int) + (most : Int)
          · have hxk := List.mem_of_getElem? HQ.out
            obtain ⟨g1, g2, g3⟩ := mem_kids.1 hxk
            have hip := hI.par x g2 g1
            rw [g3] at hip
            have IH := Lib.hid (HIH.out x (by omega) g1 w9 _ (E ++ L) (HBW.out.trans HK9.out.below) (HH.out.nk HK9.out) HV9.out HN.out (HS.out.fresh hI HE2.out HQ.out HNS.out))
            clear hxk g1 g2 g3 hip
            go_wp2_with (go_at_call 130; go_loud (refine (IH.out).mono ?_; rintro e w6 ⟨v6, L2, rfl, hv6, hn6, hL6, hk6⟩))
            refine ⟨⟨seen.push q, L ++ L2, HIT9.out.nk hk6, by rw [← List.append_assoc]; exact hv6, by rw [← List.append_assoc]; exact hn6, HS.out.more HQ.out hL6, HK9.out.trans hk6⟩, ?_⟩
            rw [IterB.seenIs (HIT9.out.nk hk6), HSEEN.out]
            exact HLT.out
          · have hno := Lib.hid (HS.out.skip hI HQ.out (by rw [HKX.out, HD.out]; omega))
            go_wp2
            refine ⟨⟨seen.push q, L, HIT9.out, HV9.out, HN.out, hno.out, HK9.out⟩, ?_⟩
            rw [IterB.seenIs HIT9.out, HSEEN.out]
            exact HLT.out
        · have hno := Lib.hid (HS.out.skip hI HQ.out (by rw [HKX.out, HD.out]; omega))
          go_wp2
          refine ⟨⟨seen.push q, L, HIT9.out, HV9.out, HN.out, hno.out, HK9.out⟩, ?_⟩
          rw [IterB.seenIs HIT9.out, HSEEN.out]
          exact HLT.out

end Go.Proofs.Ytmipnikhgihcpaa
