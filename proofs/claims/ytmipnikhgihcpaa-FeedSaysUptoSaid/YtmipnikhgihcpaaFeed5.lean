/- Contracts of feed.Check, Feed, End. -/
import Derived.Test.YtmipnikhgihcpaaFeed4
namespace Go.Proofs.Ytmipnikhgihcpaa
open Go.RowKit
set_option linter.unusedVariables false
set_option linter.unusedSimpArgs false

def runS (s : ByteArray) : MS := runL (bsL s)
theorem runS_out (s : ByteArray) : (runS s).out.length ≤ 2 * s.size := by
  have := runL_len (bsL s)
  rwa [bsL_len] at this
def ChkPost (v : Int) (w : World) (e : Ending) (w' : World) : Prop := e = .returned (.int .i64 v) ∧ Below w.heap.size w w'
set_option maxRecDepth 100000 in
theorem feed_check (s : ByteArray) (w : World) (hs : s.size ≤ 2097150) : Calls Try.prog 26 #[.string s] w (ChkPost (if (runS s).out = [] then 0 else 4) w) := by
  have HR := Lib.hid (feed_run s w hs)
  have HO := Lib.hid (show runL (bsL s) = runS s from rfl)
  unfold RunPost at HR
  rw [HO.out] at HR
  generalize runS s = m at *
  obtain ⟨v, hv⟩ : ∃ v : Int, (if m.out = [] then (0 : Int) else 4) = v := ⟨_, rfl⟩
  rw [hv]
  have HV := Lib.hid hv
  clear hv
  go_enter Try.func26, Try.ntmps26
  go_wp2_with fail
  refine HR.out.mono ?_
  rintro e w1 ⟨M, av, ov, rfl, hMw, hM, hb⟩
  obtain ⟨a2, n2, k2, rfl⟩ := hM.out.form
  have g := hM.out.get.1
  obtain ⟨c0, c1, -, -⟩ := hM.blk.two
  by_cases hn : n2 = 0
  · have HE := Lib.hid (show m.out = [] from List.eq_nil_of_length_eq_zero (by omega))
    subst hn
    clear g hM
    go_wp2
    go_ret
    refine ⟨?_, hb⟩
    rw [← HV.out, if_pos HE.out]; rfl
  · have HE := Lib.hid (show m.out ≠ [] by intro e; rw [e] at g; simp at g; omega)
    have i1 : (0 : Int) < (n2 : Int) := by omega
    clear g hM hn
    go_wp2
    go_ret
    refine ⟨?_, hb⟩
    rw [← HV.out, if_neg HE.out]; rfl

def FdPost (q : ByteArray) (L : List Int) (er : Int) (w : World) (e : Ending) (w' : World) : Prop :=
  ∃ v, e = .returned (.tuple #[.string q, v, .int .i64 er]) ∧ Own 3 w.heap.size w' v L ∧ Below w.heap.size w w'
set_option maxRecDepth 100000 in
theorem feed_feed_bad (p s : ByteArray) (w : World) (hp : p.size ≤ 2097150) (h : (runS p).out ≠ []) : Calls Try.prog 24 #[.string p, .string s] w (FdPost ⟨#[]⟩ [] 4 w) := by
  have HC := Lib.hid (feed_check p w hp)
  rw [if_neg h] at HC
  clear h
  go_enter Try.func24, Try.ntmps24
  go_wp2_with fail
  refine HC.out.mono ?_
  rintro e w1 ⟨rfl, hb⟩
  go_wp2
  go_ret3
  exact ⟨_, rfl, Own.nil _ _ _, hb⟩
set_option maxRecDepth 100000 in
theorem feed_feed_large (p s : ByteArray) (w : World) (hp : p.size ≤ 2097150) (h : (runS p).out = []) (hs : 4096 < s.size) : Calls Try.prog 24 #[.string p, .string s] w (FdPost ⟨#[]⟩ [] 2 w) := by
  have HC := Lib.hid (feed_check p w hp)
  rw [if_pos h] at HC
  have i1 : (4096 : Int) < (s.size : Int) := by omega
  clear h
  go_enter Try.func24, Try.ntmps24
  go_wp2_with fail
  refine HC.out.mono ?_
  rintro e w1 ⟨rfl, hb⟩
  go_wp2
  go_ret3
  exact ⟨_, rfl, Own.nil _ _ _, hb⟩
set_option maxRecDepth 100000 in
set_option maxHeartbeats 1000000 in
theorem feed_feed_ok (p s : ByteArray) (w : World) (hp : p.size ≤ 1048576) (h : (runS p).out = []) (hs : s.size ≤ 4096) : Calls Try.prog 24 #[.string p, .string s] w (FdPost (mkB (runS (p ++ s)).ah) (runS (p ++ s)).out 0 w) := by
  have HC := Lib.hid (feed_check p w (by omega))
  rw [if_pos h] at HC
  have i1 : ¬ (4096 : Int) < (s.size : Int) := by omega
  have hsz : (p ++ s).size = p.size + s.size := ByteArray.size_append
  have HR := Lib.hid (fun w => feed_run (p ++ s) w (by omega))
  have HO := Lib.hid (show runL (bsL (p ++ s)) = runS (p ++ s) from rfl)
  unfold RunPost at HR
  rw [HO.out] at HR
  generalize runS (p ++ s) = m at *
  clear h
  go_enter Try.func24, Try.ntmps24
  go_wp2_with fail
  refine HC.out.mono ?_
  rintro e w1 ⟨rfl, hb⟩
  go_wp2_with fail
  refine (HR.out _).mono ?_
  rintro e w2 ⟨M, av, ov, rfl, hMw, hM, hb2⟩
  have hbb := below_then hb hb.size hb2
  obtain ⟨a1, n1, k1, rfl⟩ := hM.ah.form
  obtain ⟨a2, n2, k2, rfl⟩ := hM.out.form
  have hcv := fun n => (hM.ah.drewN n).conv hM.byt
  obtain ⟨c0, c1, -, -⟩ := hM.blk.two
  have HM := Lib.hid hM
  have hz := hb.size
  have ha1 : a1 = none → n1 = 0 := hM.ah.noneZ.2.2
  clear hM
  go_upto_region 7 with fail
  go_quiet (fail)
  go_wp2
  go_ret3
  exact ⟨_, rfl, (HM.out.out.mono (by omega)).drewN _, below_drewN hbb _⟩

def EndPost (L : List Int) (er : Int) (w : World) (e : Ending) (w' : World) : Prop :=
  ∃ v, e = .returned (.tuple #[v, .int .i64 er]) ∧ Own 3 w.heap.size w' v L ∧ Below w.heap.size w w'
set_option maxRecDepth 100000 in
theorem feed_end_bad (p : ByteArray) (w : World) (hp : p.size ≤ 2097150) (h : (runS p).out ≠ []) : Calls Try.prog 25 #[.string p] w (EndPost [] 4 w) := by
  have HC := Lib.hid (feed_check p w hp)
  rw [if_neg h] at HC
  clear h
  go_enter Try.func25, Try.ntmps25
  go_wp2_with fail
  refine HC.out.mono ?_
  rintro e w1 ⟨rfl, hb⟩
  go_wp2
  go_ret2
  exact ⟨_, rfl, Own.nil _ _ _, hb⟩
set_option maxRecDepth 100000 in
set_option maxHeartbeats 1000000 in
theorem feed_end_ok (p : ByteArray) (w : World) (hp : p.size ≤ 1048576) (h : (runS p).out = []) : Calls Try.prog 25 #[.string p] w (EndPost (runS p).brk.out 0 w) := by
  have HC := Lib.hid (feed_check p w (by omega))
  rw [if_pos h] at HC
  have HR := Lib.hid (fun w => feed_run p w (by omega))
  have HO := Lib.hid (show runL (bsL p) = runS p from rfl)
  have HL := Lib.hid (runS_out p)
  unfold RunPost at HR
  rw [HO.out] at HR
  generalize runS p = m at *
  clear h
  go_enter Try.func25, Try.ntmps25
  go_wp2_with fail
  refine HC.out.mono ?_
  rintro e w1 ⟨rfl, hb⟩
  go_wp2_with fail
  refine (HR.out _).mono ?_
  rintro e w2 ⟨M, av, ov, rfl, hMw, hM, hb2⟩
  have hbb := below_then hb hb.size hb2
  have hz := hb.size
  have HM := Lib.hid hM
  clear hM
  go_wp2_with fail
  refine (feed_broken M av ov m w2 HM.out (by have := HL.out; omega)).mono ?_
  rintro e w3 ⟨rfl, ⟨av3, ov3, hM3⟩, hb3⟩
  obtain ⟨c0, c1, -, -⟩ := hM3.blk.two
  obtain ⟨a2, n2, k2, rfl⟩ := hM3.out.form
  have HM3 := Lib.hid hM3
  clear hM3
  go_wp2
  go_ret2
  exact ⟨_, rfl, HM3.out.out.mono (by omega), hbb.trans (hb3.mono (by omega))⟩

end Go.Proofs.Ytmipnikhgihcpaa
