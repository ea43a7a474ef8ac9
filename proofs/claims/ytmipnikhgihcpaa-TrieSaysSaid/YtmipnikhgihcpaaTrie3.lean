/- Contract of (*trie.Trie).put: the walk down. -/
import Derived.Test.YtmipnikhgihcpaaTrie2
namespace Go.Proofs.Ytmipnikhgihcpaa
open Go.RowKit
set_option linter.unusedVariables false
set_option linter.unusedSimpArgs false

set_option maxRecDepth 100000 in
set_option maxHeartbeats 4000000 in
theorem trie_put (w0 : World) (S : List (List Int)) (hS : S.length ≤ 1000) : ∀ (wd pre : List Int) (a : Option Addr) (m c : Nat) (A : List (List Int)) (B : Nat → Nat) (M : Nat → Option Nat) (x : Nat) (w : World), Ints w0 a wd → wd.length = m → m ≤ c → pre.length + m ≤ 24 → Below w0.heap.size w0 w →
    x < A.length → rx A x = pre → TInv A S → TrH w w0.heap.size A B M (inS S) (cnt S) →
    Calls Try.prog 134 #[.pointer (some ⟨B x, 0, none⟩), .slice a m c] w (PutT w0.heap.size A S B pre (pre ++ wd) w)
  | [], pre, a, m, c, A, B, M, x, w, ha, hm, hmc, h24, hb, hx, hp, hI, hH => by
    obtain rfl : 0 = m := hm
    rw [List.append_nil]
    exact trie_put0 w0.heap.size A S B M a c x pre w hS hx hp hI hH
  | ch :: ws, pre, a, m, c, A, B, M, x, w, ha, hm, hmc, h24, hb, hx, hp, hI, hH => by
    have hm1 : 1 ≤ m := by rw [← hm]; simp
    have h0 : ((m : Int) == 0) = false := by simpa using (by omega : ¬ ((m : Int) = 0))
    have h0' : ¬ ((m : Int) = 0) := by omega
    obtain ⟨b1, o1, rfl, hc⟩ := ha.at (k := 0) (by simp)
    have cv := hc 0 (by simp)
    have cvb : b1 < w0.heap.size := cell_lt cv
    have cv' : w.cell? ⟨b1, o1 + 0, none⟩ = some (.int .i64 ch) := by rw [hb.cell (show (⟨b1, o1 + 0, none⟩ : Addr).block < _ from cvb)]; exact cv
    rw [Nat.add_zero] at cv'
    have hin : (0 : Int) < (m : Int) := by omega
    have hslice : ∀ w, (Instr.slice 22 (.slice (some ⟨b1, o1, none⟩) m c) (some (.int .i64 1)) none none).run Try.prog w = .ok (.slice (cutA (some ⟨b1, o1, none⟩) c 1) (m - 1) (c - 1)) w := cut_run_end (some ⟨b1, o1, none⟩) m c 1 hm1
    have hB := hH.blk x hx
    obtain ⟨y0, y1, y2, g0, g1, g2⟩ := hB.three
    have hmm := @run_makeMap Try.prog
    have heq := fun w => run_eql_map_nil (P := Try.prog) w 212 3 120 (M x) Try.underlying212
    have hbs := hb.size
    have HIH := Lib.hid (fun pre => trie_put w0 S hS ws pre (cutA (some ⟨b1, o1, none⟩) c 1) (m - 1) (c - 1))
    have HCU := Lib.hid (ha.cutEnd (c := c) 1 (by rw [hm]; exact hmc) (by simp))
    have HL := Lib.hid hm; have HI := Lib.hid hI; have HH := Lib.hid hH; have HP := Lib.hid hp; have HB := Lib.hid hb
    clear hc cv ha hm hI hH hB hb hp
    obtain ⟨u, hu⟩ : ∃ u, pre ++ ch :: ws = u := ⟨_, rfl⟩
    rw [hu]
    have HU := Lib.hid hu
    clear hu
    go_enter Try.func134, Try.ntmps134
    go_upto_if 32 with fail
    go_cut [] (fun wx => ∃ M' b, M' x = some b ∧ TrH wx w0.heap.size A B M' (inS S) (cnt S) ∧ Below w0.heap.size w wx)
    case first =>
      cases hMx : M x with
      | none =>
        have HM := Lib.hid hMx
        rw [hMx] at y0 heq
        obtain ⟨z0, -, -, f0, -, -⟩ := ((HH.out.blk x hx).alloc (.map #[] 0)).three
        go_wp2
        go_meet
        exact ⟨_, w.heap.size, updT_new _ _ _, HH.out.give hx hbs HM.out, ((Below.refl _ w).alloc hbs _).setCell (HH.out.geB x hx) _⟩
      | some b =>
        have HM := Lib.hid hMx
        rw [hMx] at y0 heq
        go_wp2
        go_meet
        exact ⟨_, b, HM.out, HH.out, Below.refl _ _⟩
    obtain ⟨M', b, hMb, hH, hbl⟩ := hcut
    have hB := hH.blk x hx
    clear y0 y1 y2 g0 g1 g2 heq hmm
    obtain ⟨y0, y1, y2, g0, g1, g2⟩ := hB.three
    rw [hMb] at y0
    have cvc : wc.cell? ⟨b1, o1, none⟩ = some (.int .i64 ch) := by rw [hbl.cell (show (⟨b1, o1, none⟩ : Addr).block < _ from cvb)]; exact cv'
    clear cv'
    have hbw := hbl.size
    have HBL := Lib.hid hbl; have HH2 := Lib.hid hH; have HMB := Lib.hid hMb
    have hM := hH.map x b hx hMb
    obtain ⟨ko, hko, hlk⟩ : ∃ ko : Option Addr, ((rx A x ++ [ch] ∉ A ∧ ko = none) ∨ ∃ y, y < A.length ∧ rx A y = rx A x ++ [ch] ∧ ko = some ⟨B y, 0, none⟩) ∧ (Instr.lookup 212 (.map (some b)) (.int .i64 ch) false).run Try.prog wc.drew = .ok (.pointer ko) wc.drew := by
      by_cases hin : rx A x ++ [ch] ∈ A
      · obtain ⟨y, hy, hk, hr, hl⟩ := HI.out.kid hin
        obtain ⟨q, hq⟩ := List.getElem?_of_mem hy
        have := look_yesQ (w := wc.drew) (k := ch) hM (kidX_keys HI.out.nodup B x) (kidX_mem.2 ⟨q, y, hq, rfl⟩) (by rw [hk])
        exact ⟨_, .inr ⟨y, hl, hr, rfl⟩, this⟩
      · exact ⟨none, .inl ⟨hin, rfl⟩, look_noQ (w := wc.drew) hM (kidX_none (TInv.kidNo hin))⟩
    have HKO := Lib.hid hko
    clear hko hbl hB hM hH hMb
    go_upto_region 9 with fail
    go_region
    go_upto_if 46 with fail
    go_cut [6] (fun v wx => ∃ A' B' M2 y, v = .pointer (some ⟨B' y, 0, none⟩) ∧ y < A'.length ∧ rx A' y = rx A x ++ [ch] ∧ A <+: A' ∧ (∀ i, i < A.length → B' i = B i) ∧ TInv A' S ∧ TrH wx w0.heap.size A' B' M2 (inS S) (cnt S) ∧ Below w0.heap.size w wx ∧ A'.length ≤ A.length + 1 ∧ ∀ q ∈ A', q ∈ A ∨ q <+: u)
    case first =>
      rcases HKO.out with ⟨hno, rfl⟩ | ⟨y, hy, hr, rfl⟩
      · have HNO := Lib.hid hno
        have hnone := HI.out.none hno
        have hwb : w0.heap.size ≤ wc.heap.size := Nat.le_trans hbs hbw
        have hk1 := HH2.out.kept (below1 wc (.cells #[.map none, .bool false, .int .i64 0] 214))
        have hM1 : MapB (wc.alloc (.cells #[.map none, .bool false, .int .i64 0] 214)).drew.drew b (kidX A B x) (kidsT A x).length := hk1.map x b hx HMB.out
        obtain ⟨z0, -, -, -, -, -⟩ := (hk1.blk x hx).three
        rw [HMB.out] at z0
        obtain ⟨w4, hrun, hM4, hg4⟩ := ins_newQ (w := (wc.alloc (.cells #[.map none, .bool false, .int .i64 0] 214)).drew.drew) ch (.pointer (some ⟨wc.heap.size, 0, none⟩)) hM1 (kidX_none (B := B) (TInv.kidNo hno))
        have cvd : (wc.alloc (.cells #[.map none, .bool false, .int .i64 0] 214)).cell? ⟨b1, o1, none⟩ = some (.int .i64 ch) := by
          have := (below1 wc (.cells #[.map none, .bool false, .int .i64 0] 214)).cell (cell_lt cvc)
          exact this.trans cvc
        have HN := Lib.hid (HH2.out.drew.node HI.out hx hwb HMB.out hno hnone.1 hnone.2 hg4 hM4)
        have HG4 := Lib.hid hg4
        clear hno hnone hk1 hM1 hM4 hg4
        go_wp2
        go_region
        go_wp2
        go_meet
        refine ⟨_, _, _, A.length, ?_, by simp, rx_new _ _, List.prefix_append _ _, fun i hi => updT_old (Nat.ne_of_lt hi), HI.out.node hx (by rw [HP.out]; omega) HNO.out, HN.out, ?_, by simp, fun q hq => (by
          rw [List.mem_append, List.mem_singleton] at hq
          rcases hq with h | rfl
          · exact .inl h
          · right; rw [HP.out, ← HU.out]; exact ⟨ws, by simp⟩)⟩
        · rw [updT_new]; rfl
        · exact (HBL.out.trans ((((Below.refl _ wc).drew).alloc hwb _).drew)).grown HG4.out (Nat.le_trans hwb (by simp [World.size_alloc])) (fun q hq => by simp at hq; rw [← hq]; exact HH2.out.geM x b hx HMB.out)
      · go_wp2
        go_meet
        exact ⟨A, B, M', y, rfl, hy, hr, List.prefix_refl _, fun _ _ => rfl, HI.out, HH2.out.drew, HBL.out.drew, Nat.le_succ _, fun q hq => .inl hq⟩
    obtain ⟨A2, B2, M2, y, rfl, hy, hr, hpre, hBs, hI2, hH2, hb2, hA2, hQ2⟩ := hcut
    have HQ2 := Lib.hid hQ2
    clear hQ2
    clear y0 y1 y2 g0 g1 g2 cvc hlk HKO HH2 HMB hbw HBL HH
    have hax : x < A2.length := Nat.lt_of_lt_of_le hx hpre.length_le
    have hrx : rx A2 x = pre := by
      obtain ⟨t, rfl⟩ := hpre
      rw [rx_left hx]; exact HP.out
    have IH := Lib.hid (HIH.out (pre ++ [ch]) A2 B2 M2 y wc HCU.out (by have := HL.out; simp at this ⊢; omega) (by omega) (by rw [List.length_append, List.length_singleton]; omega) (HB.out.trans hb2) hy (by rw [hr, HP.out]) hI2 hH2)
    rw [List.append_assoc, show ([ch] ++ ws : List Int) = ch :: ws from rfl] at IH
    have hpu : pre <+: u := by rw [← HU.out]; exact List.prefix_append _ _
    rw [HU.out] at IH
    clear HIH HCU hr
    have HLEN := Lib.hid (show ∀ n, n ≤ A2.length + (u.length - (pre ++ [ch]).length) → n ≤ A.length + (u.length - pre.length) from fun n hn => by
      have h1 := congrArg List.length HU.out
      simp at h1 hn
      omega)
    obtain ⟨fr, hfr⟩ : ∃ fr, inS S u = fr := ⟨_, rfl⟩
    have HFR := Lib.hid hfr
    obtain ⟨z, hz⟩ : ∃ z, zPut S (pre ++ [ch]) u pre = z := ⟨_, rfl⟩
    have HZ := Lib.hid hz
    have hz1 : z ≤ 1001 := by
      rw [← hz]
      unfold zPut
      split
      · exact Nat.le_trans (cnt_le _ _) (Nat.le_trans (insT_len S u) (by omega))
      · exact Nat.le_trans (cnt_le _ _) (by omega)
    have iw : IntKind.i64.wrap ((z : Int) + 1) = ((z + 1 : Nat) : Int) := by rw [IntKind.wrap_i64]; omega
    have HI2 := Lib.hid hI2; have HPRE := Lib.hid hpre; have HBS := Lib.hid hBs; have HPU := Lib.hid hpu; have HRX := Lib.hid hrx; have HB2 := Lib.hid hb2
    clear hfr hz hH2 hI2 hpre hBs hpu hrx
    cases fr with
    | true =>
      go_wp2_with (go_at_call 134; go_loud (refine (IH.out).mono ?_; rintro e w5 ⟨rfl, A3, B3, M3, hp3, hB3, hI3, hH3, hb3, hl3, hq3⟩; have HQ3 := Lib.hid (fun q hq => (hq3 q hq).elim (HQ2.out q) Or.inr); have ex3 := (hB3 x hax).trans (HBS.out x hx); have hx3 : x < A3.length := Nat.lt_of_lt_of_le hax hp3.length_le; have hr3 : rx A3 x = pre := (by obtain ⟨t, rfl⟩ := hp3; rw [rx_left hax]; exact HRX.out); have hK3 := hH3.blk x hx3; rw [ex3, hr3, HZ.out] at hK3; obtain ⟨y0, y1, y2, g0, g1, g2⟩ := hK3.three; rw [HFR.out]; have HP3 := Lib.hid hp3; have HB3 := Lib.hid hB3; have HI3 := Lib.hid hI3; have HH3 := Lib.hid hH3; have HBE3 := Lib.hid hb3; have HEX := Lib.hid ex3; clear hp3 hB3 hI3 hH3 hb3 hK3 ex3))
      go_ret
      refine ⟨by rw [HFR.out]; rfl, A3, B3, M3, HPRE.out.trans HP3.out, fun i hi => (HB3.out i (Nat.lt_of_lt_of_le hi HPRE.out.length_le)).trans (HBS.out i hi), HI3.out, HH3.out.same (fun _ _ => rfl) (fun j hj => by rw [zPut_yes HFR.out, zPut_yes HFR.out]), HB2.out.trans HBE3.out, HLEN.out A3.length hl3, HQ3.out⟩
    | false =>
      go_wp2_with (go_at_call 134; go_loud (refine (IH.out).mono ?_; rintro e w5 ⟨rfl, A3, B3, M3, hp3, hB3, hI3, hH3, hb3, hl3, hq3⟩; have HQ3 := Lib.hid (fun q hq => (hq3 q hq).elim (HQ2.out q) Or.inr); have ex3 := (hB3 x hax).trans (HBS.out x hx); have hx3 : x < A3.length := Nat.lt_of_lt_of_le hax hp3.length_le; have hr3 : rx A3 x = pre := (by obtain ⟨t, rfl⟩ := hp3; rw [rx_left hax]; exact HRX.out); have hK3 := hH3.blk x hx3; rw [ex3, hr3, HZ.out] at hK3; obtain ⟨y0, y1, y2, g0, g1, g2⟩ := hK3.three; rw [HFR.out]; have HP3 := Lib.hid hp3; have HB3 := Lib.hid hB3; have HI3 := Lib.hid hI3; have HH3 := Lib.hid hH3; have HBE3 := Lib.hid hb3; have HEX := Lib.hid ex3; clear hp3 hB3 hI3 hH3 hb3 hK3 ex3))
      go_ret
      refine ⟨by rw [HFR.out]; rfl, A3, B3, M3, HPRE.out.trans HP3.out, fun i hi => (HB3.out i (Nat.lt_of_lt_of_le hi HPRE.out.length_le)).trans (HBS.out i hi), HI3.out, ?_, (HB2.out.trans HBE3.out).setCell (by rw [← HEX.out]; exact HH3.out.geB x hx3) _, HLEN.out A3.length hl3, HQ3.out⟩
      rw [← HEX.out]
      refine HH3.out.size hx3 (by rw [hr3, zPut_here HFR.out HPU.out, HZ.out]; rfl) (fun j hj e => zPut_up HPU.out (fun e2 => e (rx_inj HI3.out.nodup hj hx3 (e2.trans hr3.symm))))

end Go.Proofs.Ytmipnikhgihcpaa
