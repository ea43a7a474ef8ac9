/- Contract of slices.Repeat at int: the walk. -/
import Derived.Test.YtmipnikhgihcpaaRep
import Derived.Test.YtmipnikhgihcpaaRow
namespace Go.Proofs.Ytmipnikhgihcpaa
open Go.RowKit
set_option linter.unusedVariables false
set_option linter.unusedSimpArgs false

/-- the first m numbers of a row are xs over and over -/
def Filled (xs out : List Int) (m : Nat) : Prop := ∀ i, i < m → ix out i = ix xs (i % xs.length)
theorem splice_map (out ys : List Int) (m : Nat) : splice (out.map (Value.int .i64)) m (ys.map (Value.int .i64)) = (splice out m ys).map (Value.int .i64) := by simp [splice]
theorem splice_low (out ys : List Int) (m i : Nat) (hm : m ≤ out.length) (hi : i < m) : ix (splice out m ys) i = ix out i := by
  unfold splice; rw [ix_append_left (by simp; omega), ix_eq (by simp; omega), ix_eq (show i < out.length by omega)]; simp
theorem splice_mid (out ys : List Int) (m i : Nat) (hm : m ≤ out.length) (hi : i < ys.length) : ix (splice out m ys) (m + i) = ix ys i := by
  unfold splice
  have : (out.take m).length = m := by simp; omega
  rw [show m + i = (out.take m).length + i from by rw [this], ix_append_right, ix_append_left hi]
theorem Filled.first {xs out : List Int} (h : xs.length ≤ out.length) : Filled xs (splice out 0 xs) xs.length := fun i hi => by
  have := splice_mid out xs 0 i (Nat.zero_le _) hi
  rw [Nat.zero_add] at this; rw [this, Nat.mod_eq_of_lt hi]
theorem Filled.more {xs out : List Int} {m d q : Nat} (h : Filled xs out m) (hm : m ≤ out.length) (hd : d ≤ m) (hq : m = xs.length * q) : Filled xs (splice out m (out.take d)) (m + d) := fun i hi => by
  by_cases h1 : i < m
  · rw [splice_low _ _ _ _ hm h1]; exact h i h1
  · obtain ⟨j, rfl⟩ : ∃ j, i = m + j := ⟨i - m, by omega⟩
    have hj : j < (out.take d).length := by simp; omega
    rw [splice_mid _ _ _ _ hm hj, ix_eq hj, List.getElem_take, ← ix_eq, h j (by omega), hq, Nat.mul_add_mod]
theorem Filled.all {xs out : List Int} {k : Nat} (h : Filled xs out (xs.length * k)) (hl : out.length = xs.length * k) : out = repS xs k := by
  refine ix_ext (by rw [hl, repS_length]) fun i hi => ?_
  rw [h i (by omega), repS_ix _ _ _ (by omega)]

theorem sizeInt : (Try.prog.info? 3).map (·.size) = some 1 := by
  obtain ⟨i0, hi, hz0, hz1, hz2⟩ := info_parts info_int
  rw [hi]; simp [hz1]

theorem oneCells {ys : List Int} : ∀ v ∈ ys.map (Value.int .i64), v.oneCell' = true := by
  intro u hu
  obtain ⟨y, _, rfl⟩ := List.mem_map.1 hu
  rfl
theorem Ints.src {w : World} {a : Option Addr} {ys : List Int} (h : Ints w a ys) (hp : 0 < ys.length) : ∃ ad, a = some ad ∧ ∀ j v, (ys.map (Value.int .i64))[j]? = some v → w.cell? (ad.add j) = some v := by
  rcases h with h | ⟨b, o', ha, hc⟩
  · subst h; simp at hp
  · refine ⟨_, ha, fun j v hj => ?_⟩
    have hlt : j < ys.length := by
      rcases Nat.lt_or_ge j ys.length with h | h
      · exact h
      · simp [h] at hj
    have hadd : (⟨b, o', none⟩ : Addr).add j = ⟨b, o' + j, none⟩ := by unfold Addr.add; split <;> simp_all
    rw [hadd, hc j hlt]
    rw [List.getElem?_map, List.getElem?_eq_getElem hlt] at hj
    rw [ix_eq hlt]; exact hj

theorem own_of_blk {w : World} {g base : Nat} {xs : List Int} {e : TypeId} (h : Blk w g (xs.map (Value.int .i64)).toArray e) (hb : base ≤ g) (hl : xs.length ≤ 17592186044416) : Own e base w (.slice (some ⟨g, 0, none⟩) xs.length xs.length) xs :=
  ⟨by simp, .inr ⟨g, xs.length, _, rfl, hb, h, Nat.le_refl _, by unfold maxLen; omega, by simp, by rw [Nat.mul_one, List.take_of_length_le (by simp)]⟩⟩

def RepPost (xs : List Int) (k : Nat) (w : World) (e : Ending) (w' : World) : Prop := ∃ v, e = .returned v ∧ Own 3 w.heap.size w' v (repS xs k) ∧ Below w.heap.size w w'

set_option maxRecDepth 100000 in
set_option maxHeartbeats 1000000 in
theorem slices_repeat (a : Option Addr) (n c k : Nat) (xs : List Int) (w : World) (ha : Ints w a xs) (hn : xs.length = n) (hk : k ≤ 4096) (hl : n ≤ 4096) :
    Calls Try.prog 201 #[.slice a n c, .int .i64 (k : Int)] w (RepPost xs k w) := by
  have HN := Lib.hid hn; clear hn
  have hT : n * k ≤ 16777216 := Nat.mul_le_mul hl hk
  have hlo : n * k % 18446744073709551616 = n * k := Nat.mod_eq_of_lt (by omega)
  have hhi : n * k / 18446744073709551616 = 0 := Nat.div_eq_of_lt (by omega)
  obtain ⟨T, hTe⟩ : ∃ T, T = n * k := ⟨_, rfl⟩
  have hmk := make_int T T (Nat.le_refl _) (by omega)
  have hT2 : T ≤ 16777216 := by omega
  have hnT : T = 0 ∨ 1 ≤ n ∧ 1 ≤ k ∧ n ≤ T := by
    rcases Nat.eq_zero_or_pos k with rfl | hk1
    · left; simpa using hTe
    · rcases Nat.eq_zero_or_pos n with rfl | hn1
      · left; simpa using hTe
      · right; exact ⟨hn1, hk1, by rw [hTe]; exact Nat.le_mul_of_pos_right _ hk1⟩
  have hB := Blk.new w ((List.replicate T (0 : Int)).map (Value.int .i64)).toArray 3
  rw [← madeRow] at hB
  have hb1 := below1 w (.cells (madeCells #[.int .i64 0] T) 3)
  have hd : (xs.take (min n T)).length = Nat.min n T := by rw [List.length_take, HN.out]; show min (min n T) n = min n T; omega
  obtain ⟨ys, hys⟩ : ∃ ys, ys = xs.take (min n T) := ⟨_, rfl⟩
  have hsrc := (show Ints w a ys by rw [hys]; exact ha.take _).below hb1
  have HD := Lib.hid (show ys.length = Nat.min n T by rw [hys]; exact hd)
  have HYS := Lib.hid hys
  have hdT : Nat.min n T ≤ T := Nat.min_le_right _ _
  have HNT := Lib.hid hnT
  clear hd hys
  go_enter Try.func201, Try.ntmps201
  go_wp2_with fail
  refine (bits_mul n k (by omega) (by omega) w).mono ?_
  rintro e w' ⟨rfl, rfl⟩
  rw [hhi, hlo, ← hTe]
  have HTE := Lib.hid hTe
  clear hlo hhi hTe hnT hT
  go_wp2_with (show wpList _ _ _ (⟨some 33, _, _, _, _, _⟩ :: _) _ _; revert HYS)
  intro HYS
  (refine wpList_copy_splice (o := ⟨some 33, _, _, _, _, _⟩) rfl _ _ _ _ rfl 3 Try.underlying22 sizeInt _ _ _ _ _ _ rfl rfl w'.heap.size 0 ((List.replicate T (0 : Int)).map (Value.int .i64)) 3 (by have h := hB; unfold Blk at h; rw [h, madeRow]) (ys.map (Value.int .i64)) (by rw [List.length_map]; exact HD.out) (fun hp => ⟨rfl, hsrc.src (by simpa using hp)⟩) (by simp; rw [HD.out]; exact hdT) oneCells w'.heap.size w' hb1 (Nat.le_refl _) ?_; intro w2 hw2 hb2)
  clear hb1 hB hmk hsrc
  rw [List.length_map, HD.out]
  obtain ⟨d, hdd⟩ : ∃ d, Nat.min n T = d := ⟨_, rfl⟩
  rw [hdd] at hdT ⊢
  have hrow : Hid (∃ out : List Int, w2.heap[w'.heap.size]? = some (.cells (out.map (Value.int .i64)).toArray 3 (0, 0)) ∧ out.length = T ∧ Filled xs out d ∧ (d < T → 0 < d ∧ ∃ q, d = n * q)) := Lib.hid (by
    have h := hw2.out
    rw [splice_map] at h
    refine ⟨_, h, by rw [length_splice _ _ _ (by rw [HD.out, hdd]; simpa using hdT)]; simp, ?_, ?_⟩
    · rcases HNT.out with h0 | ⟨h1, h2, h3⟩
      · have : d = 0 := by omega
        subst this; intro i hi; omega
      · have hd : d = n := by rw [← hdd]; exact Nat.min_eq_left h3
        have : ys = xs := by rw [HYS.out, Nat.min_eq_left h3, ← HN.out, List.take_length]
        subst this
        rw [hd, ← HN.out]
        exact Filled.first (by simp; rw [HN.out]; exact h3)
    · intro hlt
      rcases HNT.out with h0 | ⟨h1, h2, h3⟩
      · omega
      · have hd : d = n := by rw [← hdd]; exact Nat.min_eq_left h3
        exact ⟨by omega, 1, by omega⟩)
  clear hw2 hdd HD HYS
  go_wp2
  go_loopw [8] (fun i wr => ∃ (m : Nat) (out : List Int), i = .int .i64 (m : Int) ∧ m ≤ T ∧ Blk wr w'.heap.size (out.map (Value.int .i64)).toArray 3 ∧ out.length = T ∧ Filled xs out m ∧ (m < T → 0 < m ∧ ∃ q, m = n * q) ∧ Below w'.heap.size w' wr) (fun i _ => T - (intOf i).toNat)
  case atStart =>
    obtain ⟨out, h1, h2, h3, h4⟩ := hrow.out
    exact ⟨d, out, rfl, hdT, h1, h2, h3, h4, hb2⟩
  case round =>
    obtain ⟨m, out, rfl, hm, hB, hol, hfil, hq, hbel⟩ := hrel
    have HOL := Lib.hid hol; have HF := Lib.hid hfil; have HQ := Lib.hid hq
    clear hrow hb2 hol hfil hq
    by_cases hlt : m < T
    · have hm0 := (HQ.out hlt).1
      have i1 : (m : Int) < (T : Int) := by omega
      have i3 : ¬ T = m := by omega
      have hel : (out.take (Nat.min m (T - m))).length = Nat.min m (T - m) := by rw [List.length_take, HOL.out]; show min (min m (T - m)) T = min m (T - m); omega
      obtain ⟨zs, hzs⟩ : ∃ zs, zs = out.take (Nat.min m (T - m)) := ⟨_, rfl⟩
      rw [← hzs] at hel
      have HEL := Lib.hid hel
      have HZ := Lib.hid hzs
      have hIz : Ints wr (some ⟨w'.heap.size, 0, none⟩) zs := by rw [hzs]; exact (ints_row hB).take _
      have hle : zs.length ≤ T - m := by rw [hel]; exact Nat.min_le_right _ _
      clear hel hzs
      go_wp2
      go_region_law (refine step_copy_splice rfl (.tmp 41) (.tmp 44) _ _ rfl 3 Try.underlying22 sizeInt (some ⟨w'.heap.size, m, none⟩) (some ⟨w'.heap.size, 0, none⟩) (T - m) (T - m) m T (by simp [Act.eval, Act.put, i3]) (by simp [Act.eval, Act.put, i3]) w'.heap.size m (out.map (Value.int .i64)) 3 hB (zs.map (Value.int .i64)) (by rw [List.length_map]; exact HEL.out) (fun hp => ⟨rfl, hIz.drew.src (by simpa using hp)⟩) (by rw [List.length_map, List.length_map, HOL.out]; omega) oneCells w'.heap.size w' hbel.drew (Nat.le_refl _) ?_; intro w4 hg4 hb4)
      all_goals
        have hg := hg4.out
        rw [splice_map] at hg
        have hz : zs = out.take zs.length := by rw [HEL.out]; exact HZ.out
        have hzm : zs.length ≤ m := by rw [HEL.out]; exact Nat.min_le_left _ _
        have hzT : zs.length = m ∨ zs.length = T - m := by rw [HEL.out]; show min m (T - m) = m ∨ min m (T - m) = T - m; omega
        have hlen : (splice out m zs).length = T := by rw [length_splice _ _ _ (by rw [HOL.out]; omega)]; exact HOL.out
        obtain ⟨q, hq⟩ := (HQ.out hlt).2
        have hfl : Filled xs (splice out m zs) (m + zs.length) := by
          rw [hz]
          have := Filled.more (xs := xs) (q := q) HF.out (by rw [HOL.out]; exact hm) hzm (by rw [HN.out]; exact hq)
          have e : (out.take zs.length).length = zs.length := by rw [← hz]
          rw [e]; exact this
        have H1 := Lib.hid hg; have H2 := Lib.hid hlen; have H3 := Lib.hid hfl
        have H4 : Hid (m + zs.length < T → 0 < m + zs.length ∧ ∃ q, m + zs.length = n * q) := Lib.hid (fun hl => ⟨by omega, 2 * q, by rcases hzT with h | h; (· rw [h, hq, ← Nat.two_mul, Nat.mul_left_comm]); (· omega)⟩)
        have hzp : 0 < zs.length := by omega
        clear hg hg4 hz hlen hq hfl hzT
        have iw : IntKind.i64.wrap ((m : Int) + (zs.length : Int)) = ((m + zs.length : Nat) : Int) := by rw [IntKind.wrap_i64]; omega
        go_simp
        go_roundw
        case rel =>
          exact ⟨_, _, _, _, _, _, _, _, _, _, _, _, _, _, ⟨m + zs.length, splice out m zs, by go_num, by omega, H1.out, H2.out, H3.out, H4.out, hb4⟩, rfl⟩
        case measure => simp [intOf]; omega
    · have hmT : m = T := by omega
      subst hmT
      go_wp2
      go_ret
      refine ⟨_, rfl, ?_, hbel⟩
      have he : out = repS xs k := Filled.all (by rw [HN.out, ← HTE.out]; exact HF.out) (by rw [HN.out, ← HTE.out]; exact HOL.out)
      rw [← he]
      have := own_of_blk hB (Nat.le_refl _) (by rw [HOL.out]; omega)
      rwa [HOL.out] at this

end Go.Proofs.Ytmipnikhgihcpaa
