/- Contracts of feed.run, Check, Feed, End. -/
import Derived.Test.YtmipnikhgihcpaaFeed3
namespace Go.Proofs.Ytmipnikhgihcpaa
open Go.RowKit
set_option linter.unusedVariables false
set_option linter.unusedSimpArgs false

/-- the bytes of a string -/
def bsL (s : ByteArray) : List Int := (List.range s.size).map (bt s)
theorem bsL_len (s : ByteArray) : (bsL s).length = s.size := by simp [bsL]
theorem bsL_ix {s : ByteArray} {k : Nat} (h : k < s.size) : ix (bsL s) k = bt s k := by
  rw [ix_eq (by rw [bsL_len]; exact h)]; simp [bsL]
theorem runL_take {l : List Int} {k : Nat} (hk : k < l.length) : runL (l.take (k + 1)) = (runL (l.take k)).take (ix l k) := by
  unfold runL
  rw [take_ix hk, List.foldl_append]; rfl
/-- what is ahead is not whole yet -/
def MS.ok (m : MS) : Prop := m.ah = [] ∨ (m.ah.length : Int) < whV (ix m.ah 0)
theorem wh_le (b : Int) : 0 ≤ whV b ∧ whV b ≤ 4 := by unfold whV; repeat' split
                                                      all_goals omega
theorem MS.ok.len {m : MS} (h : m.ok) : m.ah.length ≤ 3 := by
  rcases h with h | h
  · rw [h]; simp
  · have := wh_le (ix m.ah 0); omega
theorem brk_ok {m : MS} : m.brk.ah = [] := by
  unfold MS.brk; split
  · assumption
  · rfl
theorem put_ok {m : MS} (b : Int) (h : m.ok) : (m.put b).ok := by
  unfold MS.put
  split
  · exact .inl rfl
  · rename_i h1
    split
    · exact .inl rfl
    · rename_i h2
      refine .inr ?_
      simp only [List.length_append, List.length_cons, List.length_nil]
      by_cases he : m.ah = []
      · rw [he] at h1 h2 ⊢
        simp only [List.nil_append, List.length_nil] at h2 ⊢
        rw [show ix [b] 0 = b from rfl] at h2 ⊢
        have := wh_le b
        simp at h1
        omega
      · rcases h with h | h
        · exact absurd h he
        · have hl : 0 < m.ah.length := List.length_pos_iff.2 he
          rw [ix_append_left hl] at h2 ⊢
          omega
theorem take_ok (m : MS) (b : Int) (h : m.ok) : (m.take b).ok := by
  unfold MS.take
  split
  · exact put_ok b (.inl brk_ok)
  · exact put_ok b h
theorem runL_ok (l : List Int) : (runL l).ok := by
  unfold runL
  have : ∀ (m : MS), m.ok → (l.foldl MS.take m).ok := by
    induction l with
    | nil => intro m h; exact h
    | cons a r ih => intro m h; rw [List.foldl_cons]; exact ih _ (take_ok m a h)
  exact this _ (.inl rfl)
theorem put_len (m : MS) (b : Int) : (m.put b).out.length ≤ m.out.length + 1 := by
  unfold MS.put; repeat' split
  all_goals simp
theorem take_len (m : MS) (b : Int) : (m.take b).out.length ≤ m.out.length + 2 := by
  unfold MS.take
  split
  · have := put_len m.brk b; have := brk_len m; omega
  · have := put_len m b; omega
theorem runL_len (l : List Int) : (runL l).out.length ≤ 2 * l.length := by
  unfold runL
  have : ∀ (m : MS), (l.foldl MS.take m).out.length ≤ m.out.length + 2 * l.length := by
    induction l with
    | nil => intro m; simp
    | cons a r ih =>
      intro m
      rw [List.foldl_cons]
      have h1 := ih (m.take a)
      have h2 := take_len m a
      simp only [List.length_cons]
      omega
  simpa using this ⟨[], []⟩

def RunPost (s : ByteArray) (w : World) (e : Ending) (w' : World) : Prop := ∃ M av ov, e = .returned (.pointer (some ⟨M, 0, none⟩)) ∧ w.heap.size ≤ M ∧ Mch w' M av ov (runL (bsL s)) ∧ Below w.heap.size w w'
set_option maxRecDepth 100000 in
set_option maxHeartbeats 2000000 in
theorem feed_run (s : ByteArray) (w : World) (hs : s.size ≤ 2097150) : Calls Try.prog 94 #[.string s] w (RunPost s w) := by
  have hM0 : Mch (w.alloc (.cells #[.slice none 0 0, .slice none 0 0] 157)) w.heap.size (.slice none 0 0) (.slice none 0 0) (runL ((bsL s).take 0)) :=
    ⟨Blk.new w _ _, VOwn.nil _ _ _, Own.nil _ _ _, fun x hx => by simp [runL] at hx⟩
  have hb0 := below1 w (.cells #[.slice none 0 0, .slice none 0 0] 157)
  go_enter Try.func94, Try.ntmps94
  go_upto_region 3 with fail
  generalize (w.alloc (.cells #[.slice none 0 0, .slice none 0 0] 157)) = w1 at *
  go_loopw [9] (fun i wr => ∃ k : Nat, i = .int .i64 (k : Int) ∧ k ≤ s.size ∧ (∃ av ov, Mch wr w.heap.size av ov (runL ((bsL s).take k))) ∧ Below w.heap.size w wr) (fun i _ => s.size - (intOf i).toNat)
  case atStart => exact ⟨0, rfl, by omega, ⟨_, _, hM0⟩, hb0⟩
  case round =>
    obtain ⟨k, rfl, hk, ⟨av, ov, hM⟩, hb⟩ := hrel
    by_cases hlt : k < s.size
    · have i1 : (k : Int) < (s.size : Int) := by omega
      have hbi := bt_eq hlt
      obtain ⟨r0, r1⟩ := bt_range s k
      have HT := Lib.hid (runL_take (l := bsL s) (k := k) (by rw [bsL_len]; exact hlt))
      rw [bsL_ix hlt] at HT
      have HL := Lib.hid (runL_len ((bsL s).take k))
      rw [List.length_take, bsL_len] at HL
      have HK := Lib.hid (runL_ok ((bsL s).take k)).len
      generalize runL ((bsL s).take k) = m at *
      have HM := Lib.hid hM
      clear hM
      go_wp2_with fail
      refine (feed_take w.heap.size av ov m (bt s k) _ HM.out r0 r1 HK.out (by have := HL.out; omega)).mono ?_
      rintro e w3 ⟨rfl, hM3, hb3⟩
      go_wp2
      go_roundw
      case rel => exact ⟨k + 1, by go_num, by omega, by rw [HT.out]; exact hM3, hb.trans hb3⟩
      case measure => simp [intOf]; omega
    · obtain rfl : k = s.size := by omega
      have HT := Lib.hid (show (bsL s).take s.size = bsL s by rw [← bsL_len s]; exact List.take_length)
      rw [HT.out] at hM
      have HM := Lib.hid hM
      clear hM
      go_wp2
      go_ret
      exact ⟨_, _, _, rfl, Nat.le_refl _, HM.out, hb⟩

end Go.Proofs.Ytmipnikhgihcpaa
