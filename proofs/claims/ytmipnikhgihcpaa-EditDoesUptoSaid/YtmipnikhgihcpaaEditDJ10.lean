/- LiftEditDoes, part 10: joined from the texts Dr5 Dr7 Obj8 Dr8. No condition of its own. -/
import Derived.Test.YtmipnikhgihcpaaEditDJ5
import Derived.Test.YtmipnikhgihcpaaEditDJ6
import Derived.Test.YtmipnikhgihcpaaEditDJ9
set_option linter.unusedVariables false
set_option linter.unusedSimpArgs false
namespace Go.Proofs.Ytmipnikhgihcpaa
open Go.RowKit
set_option maxRecDepth 100000 in
theorem plain_clos (c x : Int) (P B : Nat) (w : World) (hb : w.cell? ⟨B, 0, none⟩ = some (.pointer (some ⟨P, 0, none⟩))) (hc : w.cell? ⟨P, 33, none⟩ = some (.int .i64 x)) :
  Calls Try.prog 228 #[.int .i64 c, .pointer (some ⟨B, 0, none⟩)] w fun e w' => e = .returned (.int .i64 x) ∧ w = w' := by
 go_enter Try.func228, Try.ntmps228
 go_wp2
 go_ret
 exact ⟨rfl, rfl⟩
theorem take_map_snoc {l : List Int} {j : Nat} (f : Int → Int) (h : j < l.length) : (l.take (j + 1)).map f = (l.take j).map f ++ [f (ix l j)] := by
 rw [List.take_succ_eq_append_getElem h, List.map_append]
 simp [ix, List.getD_eq_getElem?_getD, List.getElem?_eq_getElem h]
set_option maxRecDepth 100000 in
set_option maxHeartbeats 4000000 in
theorem change_turned (P m : Nat) (us : List Value) (I : In) (hI : InOk I) (s : St) (w : World) (h : DI P w us I s) (hk : I.k + m ≤ I.n) :
  Calls Try.prog 225 #[.pointer (some ⟨P, 0, none⟩), .int .i64 (m : Int), .func (.func 226) #[] #[]] w (DPost0 P I (chS I s m turnV) w) := by
 have hT := h.sl hI
 have HI := Lib.hid hI
 have HN := Lib.hid hI.len
 have hcap := hI.cap; have htop := hI.top
 have HA0 := Lib.hid hI.none
 have c0 := h.c0
 have c1 := h.c1
 have HX := Lib.hid h
 have hPw := h.lt
 have CP : ∀ (w8 : World) (us8 : List Value) (b : Option Addr) (p d : Nat) (x : List Int), DI P w8 us8 I s → Ints w8 b x → x.length = p → p ≤ 2000 → (b = none → p = 0) → Calls Try.prog 230 #[.pointer (some ⟨P, 0, none⟩), .int .i64 (I.k : Int), .int .i64 ((I.k + m : Nat) : Int), .slice b p d] w8 (DPost0 P I (putS I s I.k (I.k + m) x) w8) :=
  fun w8 us8 b p d x h8 hb hp hp2 h0 => doer_put P I.k (I.k + m) us8 I HI.out s b p d x w8 h8 hb hp hp2 h0 (by omega) hk
 have HCP := Lib.hid CP
 clear CP h hI
 obtain ⟨y, hy⟩ : ∃ y, (I.t.take (I.k + m)).drop I.k = y := ⟨_, rfl⟩
 have hcr := cut_run I.a I.n I.c I.k (I.k + m) (by omega) (by omega)
 rw [show I.k + m - I.k = m from by omega] at hcr
 obtain ⟨K2, hK2⟩ : ∃ K2, I.k + m = K2 := ⟨_, rfl⟩
 have iw : IntKind.i64.wrap ((I.k : Int) + (m : Int)) = (K2 : Int) := by rw [IntKind.wrap_i64]; omega
 rw [hK2] at hcr HCP
 have HL := Lib.hid (show y.length = m by rw [← hy, List.length_drop, List.length_take, HN.out]; omega)
 have hcut := hT.cutTo (c := I.c) I.k (I.k + m) (by rw [HN.out]; exact hcap) (by omega) (by rw [HN.out]; exact hk)
 rw [hy] at hcut
 obtain ⟨aa, haa⟩ : ∃ aa, cutA I.a I.c I.k = aa := ⟨_, rfl⟩
 rw [haa] at hcr hcut
 have HY := Lib.hid hy
 have HCUT := Lib.hid hcut
 clear hy hT hcut haa
 go_enter Try.func225, Try.ntmps225
 go_upto_region 1 with fail
 go_cut [26, 27, 28] (fun v z i wx => v = .slice aa m (I.c - I.k) ∧ z = .int .i64 (m : Int) ∧ i = .int .i64 0 ∧ Below w.heap.size w wx)
 case first =>
  go_region_law fail
  all_goals
   go_wp2
   go_meet
   exact ⟨rfl, rfl, rfl, (Below.refl _ _).drew⟩
 obtain ⟨rfl, rfl, rfl, hb1⟩ := hcut
 clear c0 c1 hcr
 go_wp2
 go_loopw [6, 28] (fun v i wr => ∃ j : Nat, i = .int .i64 (j : Int) ∧ j ≤ m ∧ Own 3 w.heap.size wr v ((y.take j).map turnV) ∧ Below w.heap.size w wr) (fun _ i _ => m - (intOf i).toNat)
 case atStart => exact ⟨0, rfl, Nat.zero_le _, Own.nil _ _ _, hb1⟩
 case round =>
  obtain ⟨j, rfl, hj, hown, hb2⟩ := hrel
  obtain ⟨av, nv, cv, rfl⟩ := hown.form
  by_cases hlt : j < m
  ·have hcut2 := HCUT.out.below hb2
   obtain ⟨b1, o1, rfl, hc⟩ := hcut2.at (k := j) (by rw [HL.out]; exact hlt)
   have e1 := hc j (by rw [HL.out]; exact hlt)
   have hlen : ((y.take j).map turnV).length < 17592186044416 := by rw [List.length_map, List.length_take, HL.out]; omega
   have hsz := hb2.size
   clear hc hcut2
   go_wp2_with fail
   refine (edit_turned _ _).mono ?_
   rintro e w3 ⟨rfl, rfl⟩
   go_wp2_with (at_builtin; refine app1 rfl _ _ rfl w.heap.size _ _ _ _ rfl rfl (hown.alloc _) (cell_new1 _ _ _) hlen (size_alloc_le hsz _) ?_; intro v1 w1 hown1 hgrow1; obtain ⟨a1, n1, m1, rfl⟩ := hown1.form)
   go_roundw
   case rel => exact ⟨j + 1, by go_num, by omega, by rw [take_map_snoc turnV (by rw [HL.out]; exact hlt)]; exact hown1, (hb2.alloc hsz _).grown hgrow1 (by simp; omega) (fun k hk => by have := hown.row k hk; omega)⟩
   case measure => simp [intOf]; omega
  ·obtain rfl : j = m := by omega
   rw [List.take_of_length_le (by rw [HL.out]; exact Nat.le_refl _)] at hown
   go_wp2
   have h8 := HX.out.to hb2
   have c1 := h8.c1
   have H8 := Lib.hid h8
   have HO := Lib.hid hown
   clear h8 hown
   go_region_law (first | (go_simp; go_at_call 230; go_loud (refine (HCP.out _ _ _ _ _ (y.map turnV) H8.out.drew HO.out.get.2.1 HO.out.get.1 (by have := HO.out.get.1; rw [List.length_map, HL.out] at this; omega) HO.out.sl.get.2.2.2.2).mono ?_; rintro e w9 ⟨rfl, hus9, hA9⟩)))
   all_goals
    go_simp
    go_wp2
    go_end0
    rw [chS, chL, HY.out, hK2]
    exact ⟨rfl, hus9, ((Asd.of hb2).drew).trans hA9⟩
set_option maxRecDepth 100000 in
set_option maxHeartbeats 4000000 in
theorem change_clos (P m : Nat) (B : Nat) (us : List Value) (I : In) (hI : InOk I) (s : St) (w : World) (h : DI P w us I s) (hk : I.k + m ≤ I.n) (hbx : w.cell? ⟨B, 0, none⟩ = some (.pointer (some ⟨P, 0, none⟩))) :
  Calls Try.prog 225 #[.pointer (some ⟨P, 0, none⟩), .int .i64 (m : Int), .func (.func 228) #[] #[.pointer (some ⟨B, 0, none⟩)]] w (DPost0 P I (chS I s m (fun _ => s.cm.e)) w) := by
 have hT := h.sl hI
 have HI := Lib.hid hI
 have HN := Lib.hid hI.len
 have hcap := hI.cap; have htop := hI.top
 have HA0 := Lib.hid hI.none
 have c0 := h.c0
 have c1 := h.c1
 have c33 := h.c33
 have HX := Lib.hid h
 have hPw := h.lt
 have CP : ∀ (w8 : World) (us8 : List Value) (b : Option Addr) (p d : Nat) (x : List Int), DI P w8 us8 I s → Ints w8 b x → x.length = p → p ≤ 2000 → (b = none → p = 0) → Calls Try.prog 230 #[.pointer (some ⟨P, 0, none⟩), .int .i64 (I.k : Int), .int .i64 ((I.k + m : Nat) : Int), .slice b p d] w8 (DPost0 P I (putS I s I.k (I.k + m) x) w8) :=
  fun w8 us8 b p d x h8 hb hp hp2 h0 => doer_put P I.k (I.k + m) us8 I HI.out s b p d x w8 h8 hb hp hp2 h0 (by omega) hk
 have HCP := Lib.hid CP
 clear CP h hI
 obtain ⟨y, hy⟩ : ∃ y, (I.t.take (I.k + m)).drop I.k = y := ⟨_, rfl⟩
 have hcr := cut_run I.a I.n I.c I.k (I.k + m) (by omega) (by omega)
 rw [show I.k + m - I.k = m from by omega] at hcr
 obtain ⟨K2, hK2⟩ : ∃ K2, I.k + m = K2 := ⟨_, rfl⟩
 have iw : IntKind.i64.wrap ((I.k : Int) + (m : Int)) = (K2 : Int) := by rw [IntKind.wrap_i64]; omega
 rw [hK2] at hcr HCP
 have HL := Lib.hid (show y.length = m by rw [← hy, List.length_drop, List.length_take, HN.out]; omega)
 have hcut := hT.cutTo (c := I.c) I.k (I.k + m) (by rw [HN.out]; exact hcap) (by omega) (by rw [HN.out]; exact hk)
 rw [hy] at hcut
 obtain ⟨aa, haa⟩ : ∃ aa, cutA I.a I.c I.k = aa := ⟨_, rfl⟩
 rw [haa] at hcr hcut
 have HY := Lib.hid hy
 have HCUT := Lib.hid hcut
 clear hy hT hcut haa
 go_enter Try.func225, Try.ntmps225
 go_upto_region 1 with fail
 go_cut [26, 27, 28] (fun v z i wx => v = .slice aa m (I.c - I.k) ∧ z = .int .i64 (m : Int) ∧ i = .int .i64 0 ∧ Below w.heap.size w wx)
 case first =>
  go_region_law fail
  all_goals
   go_wp2
   go_meet
   exact ⟨rfl, rfl, rfl, (Below.refl _ _).drew⟩
 obtain ⟨rfl, rfl, rfl, hb1⟩ := hcut
 clear c0 c1 hcr
 go_wp2
 go_loopw [6, 28] (fun v i wr => ∃ j : Nat, i = .int .i64 (j : Int) ∧ j ≤ m ∧ Own 3 w.heap.size wr v ((y.take j).map (fun _ => s.cm.e)) ∧ Below w.heap.size w wr) (fun _ i _ => m - (intOf i).toNat)
 case atStart => exact ⟨0, rfl, Nat.zero_le _, Own.nil _ _ _, hb1⟩
 case round =>
  obtain ⟨j, rfl, hj, hown, hb2⟩ := hrel
  obtain ⟨av, nv, cv, rfl⟩ := hown.form
  by_cases hlt : j < m
  ·have hcut2 := HCUT.out.below hb2
   obtain ⟨b1, o1, rfl, hc⟩ := hcut2.at (k := j) (by rw [HL.out]; exact hlt)
   have e1 := hc j (by rw [HL.out]; exact hlt)
   have hlen : ((y.take j).map (fun _ => s.cm.e)).length < 17592186044416 := by rw [List.length_map, List.length_take, HL.out]; omega
   have hsz := hb2.size
   clear hc hcut2
   have d0 : wr.cell? ⟨B, 0, none⟩ = some (.pointer (some ⟨P, 0, none⟩)) := by rw [hb2.cell (cell_lt hbx)]; exact hbx
   have d33 : wr.cell? ⟨P, 33, none⟩ = some (.int .i64 s.cm.e) := by rw [hb2.cell hPw]; exact c33
   go_wp2_with fail
   refine (plain_clos _ s.cm.e P B _ d0 d33).mono ?_
   rintro e w3 ⟨rfl, rfl⟩
   go_wp2_with (at_builtin; refine app1 rfl _ _ rfl w.heap.size _ _ _ _ rfl rfl (hown.alloc _) (cell_new1 _ _ _) hlen (size_alloc_le hsz _) ?_; intro v1 w1 hown1 hgrow1; obtain ⟨a1, n1, m1, rfl⟩ := hown1.form)
   go_roundw
   case rel => exact ⟨j + 1, by go_num, by omega, by rw [take_map_snoc (fun _ => s.cm.e) (by rw [HL.out]; exact hlt)]; exact hown1, (hb2.alloc hsz _).grown hgrow1 (by simp; omega) (fun k hk => by have := hown.row k hk; omega)⟩
   case measure => simp [intOf]; omega
  ·obtain rfl : j = m := by omega
   rw [List.take_of_length_le (by rw [HL.out]; exact Nat.le_refl _)] at hown
   go_wp2
   have h8 := HX.out.to hb2
   have c1 := h8.c1
   have H8 := Lib.hid h8
   have HO := Lib.hid hown
   clear h8 hown
   go_region_law (first | (go_simp; go_at_call 230; go_loud (refine (HCP.out _ _ _ _ _ (y.map (fun _ => s.cm.e)) H8.out.drew HO.out.get.2.1 HO.out.get.1 (by have := HO.out.get.1; rw [List.length_map, HL.out] at this; omega) HO.out.sl.get.2.2.2.2).mono ?_; rintro e w9 ⟨rfl, hus9, hA9⟩)))
   all_goals
    go_simp
    go_wp2
    go_end0
    rw [chS, chL, HY.out, hK2]
    exact ⟨rfl, hus9, ((Asd.of hb2).drew).trans hA9⟩
set_option maxRecDepth 100000 in
set_option maxHeartbeats 4000000 in
theorem plain_i (P : Nat) (us : List Value) (I : In) (hI : InOk I) (s : St) (w : World) (h : DI P w us I s) (hc0 : 0 ≤ s.cm.a) (hc1 : s.cm.a ≤ 999) (hd : s.cm.d = 105) :
  Calls Try.prog 181 #[.pointer (some ⟨P, 0, none⟩)] w (DPost P I (0) ({ s with md := 1 }) w) := by
 have HI := Lib.hid hI
 have htop := hI.top; have hk1 := hI.k1
 have h1 := h.alloc (.cells #[.pointer (some ⟨P, 0, none⟩)] 221)
 have hPw := h.lt
 have e0 : (w.alloc (.cells #[.pointer (some ⟨P, 0, none⟩)] 221)).cell? ⟨w.heap.size, 0, none⟩ = some (.pointer (some ⟨P, 0, none⟩)) := (Blk.new w #[.pointer (some ⟨P, 0, none⟩)] 221).cell 0
 have HA1 := Lib.hid (Asd.of (P := P) (below1 w (.cells #[.pointer (some ⟨P, 0, none⟩)] 221))).drew
 have hne : w.heap.size ≠ P := by omega
 obtain ⟨N, hN, hN1, hN2⟩ : ∃ N : Nat, max 1 s.cm.a = (N : Int) ∧ 1 ≤ N ∧ N ≤ 999 := ⟨(max 1 s.cm.a).toNat, by omega, by omega, by omega⟩
 have HD := Lib.hid hd
 have c0 := h1.c0; have c29 := h1.c29; have c32 := h1.c32
 rw [hd] at c32
 have H1 := Lib.hid h1.drew
 obtain ⟨ct, hct⟩ : ∃ ct, s.cm.a = ct := ⟨_, rfl⟩
 rw [hct] at c29 hN hc0 hc1
 have HCT := Lib.hid hct
 have HNN := Lib.hid hN
 clear hI h h1 hct hN hd
 go_enter Try.func181, Try.ntmps181
 go_upto_region 1 with fail
 generalize (w.alloc (.cells #[.pointer (some ⟨P, 0, none⟩)] 221)) = w1 at *
 go_cut [3, 4] (fun u v wx => u = .int .i64 (N : Int) ∧ v = .int .i64 (I.n : Int) ∧ w1.drew = wx)
 case first =>
  have h3 : ct = 0 ∨ ct = 1 ∨ 2 ≤ ct := by omega
  rcases h3 with rfl | rfl | h3
  ·obtain rfl : N = 1 := by have := HNN.out; omega
   go_region_held3 (fun w' => w'.cell? ⟨P, 0, none⟩ = some (.slice I.a I.n I.c) ∧ w'.cell? ⟨P, 29, none⟩ = some (.int .i64 0) ∧ w'.cell? ⟨w.heap.size, 0, none⟩ = some (.pointer (some ⟨P, 0, none⟩))) (first | exact ⟨c0, c29, e0⟩ | assumption) (fail)
   all_goals
    go_wp2
    go_meet
    exact ⟨rfl, rfl, rfl⟩
  ·obtain rfl : N = 1 := by have := HNN.out; omega
   go_region_held3 (fun w' => w'.cell? ⟨P, 0, none⟩ = some (.slice I.a I.n I.c) ∧ w'.cell? ⟨P, 29, none⟩ = some (.int .i64 1) ∧ w'.cell? ⟨w.heap.size, 0, none⟩ = some (.pointer (some ⟨P, 0, none⟩))) (first | exact ⟨c0, c29, e0⟩ | assumption) (fail)
   all_goals
    go_wp2
    go_meet
    exact ⟨rfl, rfl, rfl⟩
  ·obtain rfl : ct = (N : Int) := by have := HNN.out; omega
   go_region_held3 (fun w' => w'.cell? ⟨P, 0, none⟩ = some (.slice I.a I.n I.c) ∧ w'.cell? ⟨P, 29, none⟩ = some (.int .i64 (N : Int)) ∧ w'.cell? ⟨w.heap.size, 0, none⟩ = some (.pointer (some ⟨P, 0, none⟩))) (first | exact ⟨c0, c29, e0⟩ | assumption) (fail)
   all_goals
    go_wp2
    go_meet
    exact ⟨rfl, rfl, rfl⟩
 obtain ⟨rfl, rfl, rfl⟩ := hcut
 clear c29 hc0 hc1
 replace e0 : w1.drew.cell? ⟨w.heap.size, 0, none⟩ = some (.pointer (some ⟨P, 0, none⟩)) := e0
 replace c32 : w1.drew.cell? ⟨P, 32, none⟩ = some (.int .i64 105) := c32
 replace c0 : w1.drew.cell? ⟨P, 0, none⟩ = some (.slice I.a I.n I.c) := c0
 generalize w1.drew = w2 at *
 clear w1
 have c65 := H1.out.c65; have f65 := H1.out.free 65
 go_wp2
 go_ret
 exact ⟨rfl, ⟨_, H1.out.set65 1⟩, HA1.out.trans (Asd.set _)⟩
set_option maxRecDepth 100000 in
set_option maxHeartbeats 4000000 in
theorem plain_R (P : Nat) (us : List Value) (I : In) (hI : InOk I) (s : St) (w : World) (h : DI P w us I s) (hc0 : 0 ≤ s.cm.a) (hc1 : s.cm.a ≤ 999) (hd : s.cm.d = 82) :
  Calls Try.prog 181 #[.pointer (some ⟨P, 0, none⟩)] w (DPost P I (0) ({ s with md := 2 }) w) := by
 have HI := Lib.hid hI
 have htop := hI.top; have hk1 := hI.k1
 have h1 := h.alloc (.cells #[.pointer (some ⟨P, 0, none⟩)] 221)
 have hPw := h.lt
 have e0 : (w.alloc (.cells #[.pointer (some ⟨P, 0, none⟩)] 221)).cell? ⟨w.heap.size, 0, none⟩ = some (.pointer (some ⟨P, 0, none⟩)) := (Blk.new w #[.pointer (some ⟨P, 0, none⟩)] 221).cell 0
 have HA1 := Lib.hid (Asd.of (P := P) (below1 w (.cells #[.pointer (some ⟨P, 0, none⟩)] 221))).drew
 have hne : w.heap.size ≠ P := by omega
 obtain ⟨N, hN, hN1, hN2⟩ : ∃ N : Nat, max 1 s.cm.a = (N : Int) ∧ 1 ≤ N ∧ N ≤ 999 := ⟨(max 1 s.cm.a).toNat, by omega, by omega, by omega⟩
 have HD := Lib.hid hd
 have c0 := h1.c0; have c29 := h1.c29; have c32 := h1.c32
 rw [hd] at c32
 have H1 := Lib.hid h1.drew
 obtain ⟨ct, hct⟩ : ∃ ct, s.cm.a = ct := ⟨_, rfl⟩
 rw [hct] at c29 hN hc0 hc1
 have HCT := Lib.hid hct
 have HNN := Lib.hid hN
 clear hI h h1 hct hN hd
 go_enter Try.func181, Try.ntmps181
 go_upto_region 1 with fail
 generalize (w.alloc (.cells #[.pointer (some ⟨P, 0, none⟩)] 221)) = w1 at *
 go_cut [3, 4] (fun u v wx => u = .int .i64 (N : Int) ∧ v = .int .i64 (I.n : Int) ∧ w1.drew = wx)
 case first =>
  have h3 : ct = 0 ∨ ct = 1 ∨ 2 ≤ ct := by omega
  rcases h3 with rfl | rfl | h3
  ·obtain rfl : N = 1 := by have := HNN.out; omega
   go_region_held3 (fun w' => w'.cell? ⟨P, 0, none⟩ = some (.slice I.a I.n I.c) ∧ w'.cell? ⟨P, 29, none⟩ = some (.int .i64 0) ∧ w'.cell? ⟨w.heap.size, 0, none⟩ = some (.pointer (some ⟨P, 0, none⟩))) (first | exact ⟨c0, c29, e0⟩ | assumption) (fail)
   all_goals
    go_wp2
    go_meet
    exact ⟨rfl, rfl, rfl⟩
  ·obtain rfl : N = 1 := by have := HNN.out; omega
   go_region_held3 (fun w' => w'.cell? ⟨P, 0, none⟩ = some (.slice I.a I.n I.c) ∧ w'.cell? ⟨P, 29, none⟩ = some (.int .i64 1) ∧ w'.cell? ⟨w.heap.size, 0, none⟩ = some (.pointer (some ⟨P, 0, none⟩))) (first | exact ⟨c0, c29, e0⟩ | assumption) (fail)
   all_goals
    go_wp2
    go_meet
    exact ⟨rfl, rfl, rfl⟩
  ·obtain rfl : ct = (N : Int) := by have := HNN.out; omega
   go_region_held3 (fun w' => w'.cell? ⟨P, 0, none⟩ = some (.slice I.a I.n I.c) ∧ w'.cell? ⟨P, 29, none⟩ = some (.int .i64 (N : Int)) ∧ w'.cell? ⟨w.heap.size, 0, none⟩ = some (.pointer (some ⟨P, 0, none⟩))) (first | exact ⟨c0, c29, e0⟩ | assumption) (fail)
   all_goals
    go_wp2
    go_meet
    exact ⟨rfl, rfl, rfl⟩
 obtain ⟨rfl, rfl, rfl⟩ := hcut
 clear c29 hc0 hc1
 replace e0 : w1.drew.cell? ⟨w.heap.size, 0, none⟩ = some (.pointer (some ⟨P, 0, none⟩)) := e0
 replace c32 : w1.drew.cell? ⟨P, 32, none⟩ = some (.int .i64 82) := c32
 replace c0 : w1.drew.cell? ⟨P, 0, none⟩ = some (.slice I.a I.n I.c) := c0
 generalize w1.drew = w2 at *
 clear w1
 have c65 := H1.out.c65; have f65 := H1.out.free 65
 go_wp2
 go_ret
 exact ⟨rfl, ⟨_, H1.out.set65 2⟩, HA1.out.trans (Asd.set _)⟩
set_option maxRecDepth 100000 in
set_option maxHeartbeats 4000000 in
theorem plain_A (P : Nat) (us : List Value) (I : In) (hI : InOk I) (s : St) (w : World) (h : DI P w us I s) (hc0 : 0 ≤ s.cm.a) (hc1 : s.cm.a ≤ 999) (hd : s.cm.d = 65) :
  Calls Try.prog 181 #[.pointer (some ⟨P, 0, none⟩)] w (DPost P I (0) ({ s with md := 1, p := (I.n : Int) }) w) := by
 have HI := Lib.hid hI
 have htop := hI.top; have hk1 := hI.k1
 have h1 := h.alloc (.cells #[.pointer (some ⟨P, 0, none⟩)] 221)
 have hPw := h.lt
 have e0 : (w.alloc (.cells #[.pointer (some ⟨P, 0, none⟩)] 221)).cell? ⟨w.heap.size, 0, none⟩ = some (.pointer (some ⟨P, 0, none⟩)) := (Blk.new w #[.pointer (some ⟨P, 0, none⟩)] 221).cell 0
 have HA1 := Lib.hid (Asd.of (P := P) (below1 w (.cells #[.pointer (some ⟨P, 0, none⟩)] 221))).drew
 have hne : w.heap.size ≠ P := by omega
 obtain ⟨N, hN, hN1, hN2⟩ : ∃ N : Nat, max 1 s.cm.a = (N : Int) ∧ 1 ≤ N ∧ N ≤ 999 := ⟨(max 1 s.cm.a).toNat, by omega, by omega, by omega⟩
 have HD := Lib.hid hd
 have c0 := h1.c0; have c29 := h1.c29; have c32 := h1.c32
 rw [hd] at c32
 have H1 := Lib.hid h1.drew
 obtain ⟨ct, hct⟩ : ∃ ct, s.cm.a = ct := ⟨_, rfl⟩
 rw [hct] at c29 hN hc0 hc1
 have HCT := Lib.hid hct
 have HNN := Lib.hid hN
 clear hI h h1 hct hN hd
 go_enter Try.func181, Try.ntmps181
 go_upto_region 1 with fail
 generalize (w.alloc (.cells #[.pointer (some ⟨P, 0, none⟩)] 221)) = w1 at *
 go_cut [3, 4] (fun u v wx => u = .int .i64 (N : Int) ∧ v = .int .i64 (I.n : Int) ∧ w1.drew = wx)
 case first =>
  have h3 : ct = 0 ∨ ct = 1 ∨ 2 ≤ ct := by omega
  rcases h3 with rfl | rfl | h3
  ·obtain rfl : N = 1 := by have := HNN.out; omega
   go_region_held3 (fun w' => w'.cell? ⟨P, 0, none⟩ = some (.slice I.a I.n I.c) ∧ w'.cell? ⟨P, 29, none⟩ = some (.int .i64 0) ∧ w'.cell? ⟨w.heap.size, 0, none⟩ = some (.pointer (some ⟨P, 0, none⟩))) (first | exact ⟨c0, c29, e0⟩ | assumption) (fail)
   all_goals
    go_wp2
    go_meet
    exact ⟨rfl, rfl, rfl⟩
  ·obtain rfl : N = 1 := by have := HNN.out; omega
   go_region_held3 (fun w' => w'.cell? ⟨P, 0, none⟩ = some (.slice I.a I.n I.c) ∧ w'.cell? ⟨P, 29, none⟩ = some (.int .i64 1) ∧ w'.cell? ⟨w.heap.size, 0, none⟩ = some (.pointer (some ⟨P, 0, none⟩))) (first | exact ⟨c0, c29, e0⟩ | assumption) (fail)
   all_goals
    go_wp2
    go_meet
    exact ⟨rfl, rfl, rfl⟩
  ·obtain rfl : ct = (N : Int) := by have := HNN.out; omega
   go_region_held3 (fun w' => w'.cell? ⟨P, 0, none⟩ = some (.slice I.a I.n I.c) ∧ w'.cell? ⟨P, 29, none⟩ = some (.int .i64 (N : Int)) ∧ w'.cell? ⟨w.heap.size, 0, none⟩ = some (.pointer (some ⟨P, 0, none⟩))) (first | exact ⟨c0, c29, e0⟩ | assumption) (fail)
   all_goals
    go_wp2
    go_meet
    exact ⟨rfl, rfl, rfl⟩
 obtain ⟨rfl, rfl, rfl⟩ := hcut
 clear c29 hc0 hc1
 replace e0 : w1.drew.cell? ⟨w.heap.size, 0, none⟩ = some (.pointer (some ⟨P, 0, none⟩)) := e0
 replace c32 : w1.drew.cell? ⟨P, 32, none⟩ = some (.int .i64 65) := c32
 replace c0 : w1.drew.cell? ⟨P, 0, none⟩ = some (.slice I.a I.n I.c) := c0
 generalize w1.drew = w2 at *
 clear w1
 have c65 := H1.out.c65; have f65 := H1.out.free 65
 have c35 := H1.out.c35; have f35 := H1.out.free 35
 go_wp2
 go_ret
 exact ⟨rfl, ⟨_, (H1.out.set65 1).set35 (I.n : Int)⟩, HA1.out.trans ((Asd.set _).trans (Asd.set _))⟩
set_option maxRecDepth 100000 in
set_option maxHeartbeats 4000000 in
theorem plain_no (P : Nat) (us : List Value) (I : In) (hI : InOk I) (s : St) (w : World) (h : DI P w us I s) (hc0 : 0 ≤ s.cm.a) (hc1 : s.cm.a ≤ 999) (n112 : s.cm.d ≠ 112) (n80 : s.cm.d ≠ 80) (n126 : s.cm.d ≠ 126) (n114 : s.cm.d ≠ 114) (n105 : s.cm.d ≠ 105) (n73 : s.cm.d ≠ 73) (n97 : s.cm.d ≠ 97) (n65 : s.cm.d ≠ 65) (n82 : s.cm.d ≠ 82) :
  Calls Try.prog 181 #[.pointer (some ⟨P, 0, none⟩)] w (DPost P I (9) (s) w) := by
 have HI := Lib.hid hI
 have htop := hI.top; have hk1 := hI.k1
 have h1 := h.alloc (.cells #[.pointer (some ⟨P, 0, none⟩)] 221)
 have hPw := h.lt
 have e0 : (w.alloc (.cells #[.pointer (some ⟨P, 0, none⟩)] 221)).cell? ⟨w.heap.size, 0, none⟩ = some (.pointer (some ⟨P, 0, none⟩)) := (Blk.new w #[.pointer (some ⟨P, 0, none⟩)] 221).cell 0
 have HA1 := Lib.hid (Asd.of (P := P) (below1 w (.cells #[.pointer (some ⟨P, 0, none⟩)] 221))).drew
 have hne : w.heap.size ≠ P := by omega
 obtain ⟨N, hN, hN1, hN2⟩ : ∃ N : Nat, max 1 s.cm.a = (N : Int) ∧ 1 ≤ N ∧ N ≤ 999 := ⟨(max 1 s.cm.a).toNat, by omega, by omega, by omega⟩
 have m112 : (s.cm.d == 112) = false := by simpa using n112
 have m80 : (s.cm.d == 80) = false := by simpa using n80
 have m126 : (s.cm.d == 126) = false := by simpa using n126
 have m114 : (s.cm.d == 114) = false := by simpa using n114
 have m105 : (s.cm.d == 105) = false := by simpa using n105
 have m73 : (s.cm.d == 73) = false := by simpa using n73
 have m97 : (s.cm.d == 97) = false := by simpa using n97
 have m65 : (s.cm.d == 65) = false := by simpa using n65
 have m82 : (s.cm.d == 82) = false := by simpa using n82
 clear n112 n80 n126 n114 n105 n73 n97 n65 n82
 have c0 := h1.c0; have c29 := h1.c29; have c32 := h1.c32
 have H1 := Lib.hid h1.drew
 obtain ⟨ct, hct⟩ : ∃ ct, s.cm.a = ct := ⟨_, rfl⟩
 rw [hct] at c29 hN hc0 hc1
 have HCT := Lib.hid hct
 have HNN := Lib.hid hN
 clear hI h h1 hct hN
 go_enter Try.func181, Try.ntmps181
 go_upto_region 1 with fail
 generalize (w.alloc (.cells #[.pointer (some ⟨P, 0, none⟩)] 221)) = w1 at *
 go_cut [3, 4] (fun u v wx => u = .int .i64 (N : Int) ∧ v = .int .i64 (I.n : Int) ∧ w1.drew = wx)
 case first =>
  have h3 : ct = 0 ∨ ct = 1 ∨ 2 ≤ ct := by omega
  rcases h3 with rfl | rfl | h3
  ·obtain rfl : N = 1 := by have := HNN.out; omega
   go_region_held3 (fun w' => w'.cell? ⟨P, 0, none⟩ = some (.slice I.a I.n I.c) ∧ w'.cell? ⟨P, 29, none⟩ = some (.int .i64 0) ∧ w'.cell? ⟨w.heap.size, 0, none⟩ = some (.pointer (some ⟨P, 0, none⟩))) (first | exact ⟨c0, c29, e0⟩ | assumption) (fail)
   all_goals
    go_wp2
    go_meet
    exact ⟨rfl, rfl, rfl⟩
  ·obtain rfl : N = 1 := by have := HNN.out; omega
   go_region_held3 (fun w' => w'.cell? ⟨P, 0, none⟩ = some (.slice I.a I.n I.c) ∧ w'.cell? ⟨P, 29, none⟩ = some (.int .i64 1) ∧ w'.cell? ⟨w.heap.size, 0, none⟩ = some (.pointer (some ⟨P, 0, none⟩))) (first | exact ⟨c0, c29, e0⟩ | assumption) (fail)
   all_goals
    go_wp2
    go_meet
    exact ⟨rfl, rfl, rfl⟩
  ·obtain rfl : ct = (N : Int) := by have := HNN.out; omega
   go_region_held3 (fun w' => w'.cell? ⟨P, 0, none⟩ = some (.slice I.a I.n I.c) ∧ w'.cell? ⟨P, 29, none⟩ = some (.int .i64 (N : Int)) ∧ w'.cell? ⟨w.heap.size, 0, none⟩ = some (.pointer (some ⟨P, 0, none⟩))) (first | exact ⟨c0, c29, e0⟩ | assumption) (fail)
   all_goals
    go_wp2
    go_meet
    exact ⟨rfl, rfl, rfl⟩
 obtain ⟨rfl, rfl, rfl⟩ := hcut
 clear c29 hc0 hc1
 replace e0 : w1.drew.cell? ⟨w.heap.size, 0, none⟩ = some (.pointer (some ⟨P, 0, none⟩)) := e0
 replace c32 : w1.drew.cell? ⟨P, 32, none⟩ = some (.int .i64 s.cm.d) := c32
 replace c0 : w1.drew.cell? ⟨P, 0, none⟩ = some (.slice I.a I.n I.c) := c0
 generalize w1.drew = w2 at *
 clear w1
 go_wp2
 go_ret
 exact ⟨rfl, ⟨_, H1.out⟩, HA1.out⟩
set_option maxRecDepth 100000 in
set_option maxHeartbeats 4000000 in
theorem plain_a (P : Nat) (us : List Value) (I : In) (hI : InOk I) (s : St) (w : World) (h : DI P w us I s) (hc0 : 0 ≤ s.cm.a) (hc1 : s.cm.a ≤ 999) (hd : s.cm.d = 97) (pv : Int) (hpv : min ((I.k : Int) + 1) I.n = pv) :
  Calls Try.prog 181 #[.pointer (some ⟨P, 0, none⟩)] w (DPost P I (0) ({ s with md := 1, p := pv }) w) := by
 have HI := Lib.hid hI
 have htop := hI.top; have hk1 := hI.k1
 have h1 := h.alloc (.cells #[.pointer (some ⟨P, 0, none⟩)] 221)
 have hPw := h.lt
 have e0 : (w.alloc (.cells #[.pointer (some ⟨P, 0, none⟩)] 221)).cell? ⟨w.heap.size, 0, none⟩ = some (.pointer (some ⟨P, 0, none⟩)) := (Blk.new w #[.pointer (some ⟨P, 0, none⟩)] 221).cell 0
 have HA1 := Lib.hid (Asd.of (P := P) (below1 w (.cells #[.pointer (some ⟨P, 0, none⟩)] 221))).drew
 have hne : w.heap.size ≠ P := by omega
 obtain ⟨N, hN, hN1, hN2⟩ : ∃ N : Nat, max 1 s.cm.a = (N : Int) ∧ 1 ≤ N ∧ N ≤ 999 := ⟨(max 1 s.cm.a).toNat, by omega, by omega, by omega⟩
 have HD := Lib.hid hd
 have HPV := Lib.hid hpv
 clear hpv
 have c0 := h1.c0; have c29 := h1.c29; have c32 := h1.c32
 rw [hd] at c32
 have H1 := Lib.hid h1.drew
 obtain ⟨ct, hct⟩ : ∃ ct, s.cm.a = ct := ⟨_, rfl⟩
 rw [hct] at c29 hN hc0 hc1
 have HCT := Lib.hid hct
 have HNN := Lib.hid hN
 clear hI h h1 hct hN hd
 go_enter Try.func181, Try.ntmps181
 go_upto_region 1 with fail
 generalize (w.alloc (.cells #[.pointer (some ⟨P, 0, none⟩)] 221)) = w1 at *
 go_cut [3, 4] (fun u v wx => u = .int .i64 (N : Int) ∧ v = .int .i64 (I.n : Int) ∧ w1.drew = wx)
 case first =>
  have h3 : ct = 0 ∨ ct = 1 ∨ 2 ≤ ct := by omega
  rcases h3 with rfl | rfl | h3
  ·obtain rfl : N = 1 := by have := HNN.out; omega
   go_region_held3 (fun w' => w'.cell? ⟨P, 0, none⟩ = some (.slice I.a I.n I.c) ∧ w'.cell? ⟨P, 29, none⟩ = some (.int .i64 0) ∧ w'.cell? ⟨w.heap.size, 0, none⟩ = some (.pointer (some ⟨P, 0, none⟩))) (first | exact ⟨c0, c29, e0⟩ | assumption) (fail)
   all_goals
    go_wp2
    go_meet
    exact ⟨rfl, rfl, rfl⟩
  ·obtain rfl : N = 1 := by have := HNN.out; omega
   go_region_held3 (fun w' => w'.cell? ⟨P, 0, none⟩ = some (.slice I.a I.n I.c) ∧ w'.cell? ⟨P, 29, none⟩ = some (.int .i64 1) ∧ w'.cell? ⟨w.heap.size, 0, none⟩ = some (.pointer (some ⟨P, 0, none⟩))) (first | exact ⟨c0, c29, e0⟩ | assumption) (fail)
   all_goals
    go_wp2
    go_meet
    exact ⟨rfl, rfl, rfl⟩
  ·obtain rfl : ct = (N : Int) := by have := HNN.out; omega
   go_region_held3 (fun w' => w'.cell? ⟨P, 0, none⟩ = some (.slice I.a I.n I.c) ∧ w'.cell? ⟨P, 29, none⟩ = some (.int .i64 (N : Int)) ∧ w'.cell? ⟨w.heap.size, 0, none⟩ = some (.pointer (some ⟨P, 0, none⟩))) (first | exact ⟨c0, c29, e0⟩ | assumption) (fail)
   all_goals
    go_wp2
    go_meet
    exact ⟨rfl, rfl, rfl⟩
 obtain ⟨rfl, rfl, rfl⟩ := hcut
 clear c29 hc0 hc1
 replace e0 : w1.drew.cell? ⟨w.heap.size, 0, none⟩ = some (.pointer (some ⟨P, 0, none⟩)) := e0
 replace c32 : w1.drew.cell? ⟨P, 32, none⟩ = some (.int .i64 97) := c32
 replace c0 : w1.drew.cell? ⟨P, 0, none⟩ = some (.slice I.a I.n I.c) := c0
 generalize w1.drew = w2 at *
 clear w1
 have c65 := H1.out.c65; have f65 := H1.out.free 65
 have c35 := H1.out.c35; have f35 := H1.out.free 35
 have c1 := H1.out.c1
 have h3 : I.k + 1 < I.n ∨ I.n ≤ I.k + 1 := by omega
 rcases h3 with h3 | h3
 all_goals
  go_upto_region 26 with fail
  go_region
  all_goals
   go_wp2
   all_goals
    go_ret
    first
     | (obtain rfl : pv = (I.k : Int) + 1 := by have := HPV.out; omega); exact ⟨rfl, ⟨_, ((H1.out.set65 1).drew).set35 _⟩, HA1.out.trans ((Asd.set _).drew.trans (Asd.set _))⟩
     | (obtain rfl : pv = (I.n : Int) := by have := HPV.out; omega); exact ⟨rfl, ⟨_, ((H1.out.set65 1).drew).set35 _⟩, HA1.out.trans ((Asd.set _).drew.trans (Asd.set _))⟩
set_option maxRecDepth 100000 in
set_option maxHeartbeats 4000000 in
theorem plain_P (P : Nat) (us : List Value) (I : In) (hI : InOk I) (s : St) (w : World) (h : DI P w us I s) (hc0 : 0 ≤ s.cm.a) (hc1 : s.cm.a ≤ 999) (hd : s.cm.d = 80) :
  Calls Try.prog 181 #[.pointer (some ⟨P, 0, none⟩)] w (DPost P I ((psS I s I.k).1) ((psS I s I.k).2) w) := by
 have HI := Lib.hid hI
 have htop := hI.top; have hk1 := hI.k1
 have h1 := h.alloc (.cells #[.pointer (some ⟨P, 0, none⟩)] 221)
 have hPw := h.lt
 have e0 : (w.alloc (.cells #[.pointer (some ⟨P, 0, none⟩)] 221)).cell? ⟨w.heap.size, 0, none⟩ = some (.pointer (some ⟨P, 0, none⟩)) := (Blk.new w #[.pointer (some ⟨P, 0, none⟩)] 221).cell 0
 have HA1 := Lib.hid (Asd.of (P := P) (below1 w (.cells #[.pointer (some ⟨P, 0, none⟩)] 221))).drew
 have hne : w.heap.size ≠ P := by omega
 obtain ⟨N, hN, hN1, hN2⟩ : ∃ N : Nat, max 1 s.cm.a = (N : Int) ∧ 1 ≤ N ∧ N ≤ 999 := ⟨(max 1 s.cm.a).toNat, by omega, by omega, by omega⟩
 have HD := Lib.hid hd
 have HB := Lib.hid (And.intro hc0 hc1)
 have c0 := h1.c0; have c29 := h1.c29; have c32 := h1.c32
 rw [hd] at c32
 have H1 := Lib.hid h1.drew
 obtain ⟨ct, hct⟩ : ∃ ct, s.cm.a = ct := ⟨_, rfl⟩
 rw [hct] at c29 hN hc0 hc1
 have HCT := Lib.hid hct
 have HNN := Lib.hid hN
 clear hI h h1 hct hN hd
 go_enter Try.func181, Try.ntmps181
 go_upto_region 1 with fail
 generalize (w.alloc (.cells #[.pointer (some ⟨P, 0, none⟩)] 221)) = w1 at *
 go_cut [3, 4] (fun u v wx => u = .int .i64 (N : Int) ∧ v = .int .i64 (I.n : Int) ∧ w1.drew = wx)
 case first =>
  have h3 : ct = 0 ∨ ct = 1 ∨ 2 ≤ ct := by omega
  rcases h3 with rfl | rfl | h3
  ·obtain rfl : N = 1 := by have := HNN.out; omega
   go_region_held3 (fun w' => w'.cell? ⟨P, 0, none⟩ = some (.slice I.a I.n I.c) ∧ w'.cell? ⟨P, 29, none⟩ = some (.int .i64 0) ∧ w'.cell? ⟨w.heap.size, 0, none⟩ = some (.pointer (some ⟨P, 0, none⟩))) (first | exact ⟨c0, c29, e0⟩ | assumption) (fail)
   all_goals
    go_wp2
    go_meet
    exact ⟨rfl, rfl, rfl⟩
  ·obtain rfl : N = 1 := by have := HNN.out; omega
   go_region_held3 (fun w' => w'.cell? ⟨P, 0, none⟩ = some (.slice I.a I.n I.c) ∧ w'.cell? ⟨P, 29, none⟩ = some (.int .i64 1) ∧ w'.cell? ⟨w.heap.size, 0, none⟩ = some (.pointer (some ⟨P, 0, none⟩))) (first | exact ⟨c0, c29, e0⟩ | assumption) (fail)
   all_goals
    go_wp2
    go_meet
    exact ⟨rfl, rfl, rfl⟩
  ·obtain rfl : ct = (N : Int) := by have := HNN.out; omega
   go_region_held3 (fun w' => w'.cell? ⟨P, 0, none⟩ = some (.slice I.a I.n I.c) ∧ w'.cell? ⟨P, 29, none⟩ = some (.int .i64 (N : Int)) ∧ w'.cell? ⟨w.heap.size, 0, none⟩ = some (.pointer (some ⟨P, 0, none⟩))) (first | exact ⟨c0, c29, e0⟩ | assumption) (fail)
   all_goals
    go_wp2
    go_meet
    exact ⟨rfl, rfl, rfl⟩
 obtain ⟨rfl, rfl, rfl⟩ := hcut
 clear c29 hc0 hc1
 replace e0 : w1.drew.cell? ⟨w.heap.size, 0, none⟩ = some (.pointer (some ⟨P, 0, none⟩)) := e0
 replace c32 : w1.drew.cell? ⟨P, 32, none⟩ = some (.int .i64 80) := c32
 replace c0 : w1.drew.cell? ⟨P, 0, none⟩ = some (.slice I.a I.n I.c) := c0
 generalize w1.drew = w2 at *
 clear w1
 have c1 := H1.out.c1
 have CP : ∀ w3, DI P w3 us I s → Calls Try.prog 224 #[.pointer (some ⟨P, 0, none⟩), .int .i64 (I.k : Int)] w3 (DPost P I (psS I s I.k).1 (psS I s I.k).2 w3) := fun w3 h3 => doer_paste P I.k us I HI.out s w3 h3 (by omega) (HB.out).1 (HB.out).2
 have HCP := Lib.hid CP
 clear CP
 go_upto_region 7 with fail
 go_region_law (first | (go_simp; go_at_call 224; refine (HCP.out _ H1.out.drew).mono ?_; rintro e w3 ⟨rfl, hus3, hA3⟩))
 all_goals
  go_simp
  go_wp2
  go_ret
  exact ⟨rfl, hus3, HA1.out.drew.trans hA3⟩
set_option maxRecDepth 100000 in
set_option maxHeartbeats 4000000 in
theorem plain_p (P : Nat) (us : List Value) (I : In) (hI : InOk I) (s : St) (w : World) (h : DI P w us I s) (hc0 : 0 ≤ s.cm.a) (hc1 : s.cm.a ≤ 999) (hd : s.cm.d = 112) (i : Nat) (hi : min (I.k + 1) I.n = i) :
  Calls Try.prog 181 #[.pointer (some ⟨P, 0, none⟩)] w (DPost P I ((psS I s i).1) ((psS I s i).2) w) := by
 have HI := Lib.hid hI
 have htop := hI.top; have hk1 := hI.k1
 have h1 := h.alloc (.cells #[.pointer (some ⟨P, 0, none⟩)] 221)
 have hPw := h.lt
 have e0 : (w.alloc (.cells #[.pointer (some ⟨P, 0, none⟩)] 221)).cell? ⟨w.heap.size, 0, none⟩ = some (.pointer (some ⟨P, 0, none⟩)) := (Blk.new w #[.pointer (some ⟨P, 0, none⟩)] 221).cell 0
 have HA1 := Lib.hid (Asd.of (P := P) (below1 w (.cells #[.pointer (some ⟨P, 0, none⟩)] 221))).drew
 have hne : w.heap.size ≠ P := by omega
 obtain ⟨N, hN, hN1, hN2⟩ : ∃ N : Nat, max 1 s.cm.a = (N : Int) ∧ 1 ≤ N ∧ N ≤ 999 := ⟨(max 1 s.cm.a).toNat, by omega, by omega, by omega⟩
 have HD := Lib.hid hd
 have HB := Lib.hid (And.intro hc0 hc1)
 have HPI := Lib.hid hi
 clear hi
 have c0 := h1.c0; have c29 := h1.c29; have c32 := h1.c32
 rw [hd] at c32
 have H1 := Lib.hid h1.drew
 obtain ⟨ct, hct⟩ : ∃ ct, s.cm.a = ct := ⟨_, rfl⟩
 rw [hct] at c29 hN hc0 hc1
 have HCT := Lib.hid hct
 have HNN := Lib.hid hN
 clear hI h h1 hct hN hd
 go_enter Try.func181, Try.ntmps181
 go_upto_region 1 with fail
 generalize (w.alloc (.cells #[.pointer (some ⟨P, 0, none⟩)] 221)) = w1 at *
 go_cut [3, 4] (fun u v wx => u = .int .i64 (N : Int) ∧ v = .int .i64 (I.n : Int) ∧ w1.drew = wx)
 case first =>
  have h3 : ct = 0 ∨ ct = 1 ∨ 2 ≤ ct := by omega
  rcases h3 with rfl | rfl | h3
  ·obtain rfl : N = 1 := by have := HNN.out; omega
   go_region_held3 (fun w' => w'.cell? ⟨P, 0, none⟩ = some (.slice I.a I.n I.c) ∧ w'.cell? ⟨P, 29, none⟩ = some (.int .i64 0) ∧ w'.cell? ⟨w.heap.size, 0, none⟩ = some (.pointer (some ⟨P, 0, none⟩))) (first | exact ⟨c0, c29, e0⟩ | assumption) (fail)
   all_goals
    go_wp2
    go_meet
    exact ⟨rfl, rfl, rfl⟩
  ·obtain rfl : N = 1 := by have := HNN.out; omega
   go_region_held3 (fun w' => w'.cell? ⟨P, 0, none⟩ = some (.slice I.a I.n I.c) ∧ w'.cell? ⟨P, 29, none⟩ = some (.int .i64 1) ∧ w'.cell? ⟨w.heap.size, 0, none⟩ = some (.pointer (some ⟨P, 0, none⟩))) (first | exact ⟨c0, c29, e0⟩ | assumption) (fail)
   all_goals
    go_wp2
    go_meet
    exact ⟨rfl, rfl, rfl⟩
  ·obtain rfl : ct = (N : Int) := by have := HNN.out; omega
   go_region_held3 (fun w' => w'.cell? ⟨P, 0, none⟩ = some (.slice I.a I.n I.c) ∧ w'.cell? ⟨P, 29, none⟩ = some (.int .i64 (N : Int)) ∧ w'.cell? ⟨w.heap.size, 0, none⟩ = some (.pointer (some ⟨P, 0, none⟩))) (first | exact ⟨c0, c29, e0⟩ | assumption) (fail)
   all_goals
    go_wp2
    go_meet
    exact ⟨rfl, rfl, rfl⟩
 obtain ⟨rfl, rfl, rfl⟩ := hcut
 clear c29 hc0 hc1
 replace e0 : w1.drew.cell? ⟨w.heap.size, 0, none⟩ = some (.pointer (some ⟨P, 0, none⟩)) := e0
 replace c32 : w1.drew.cell? ⟨P, 32, none⟩ = some (.int .i64 112) := c32
 replace c0 : w1.drew.cell? ⟨P, 0, none⟩ = some (.slice I.a I.n I.c) := c0
 generalize w1.drew = w2 at *
 clear w1
 have c1 := H1.out.c1
 have CP : ∀ (x : Int) w3, x = (i : Int) → DI P w3 us I s → Calls Try.prog 224 #[.pointer (some ⟨P, 0, none⟩), .int .i64 x] w3 (DPost P I (psS I s i).1 (psS I s i).2 w3) := fun x w3 hx h3 => by
  subst hx
  exact doer_paste P i us I HI.out s w3 h3 (by have := HPI.out; omega) (HB.out).1 (HB.out).2
 have HCP := Lib.hid CP
 clear CP
 have iw : IntKind.i64.wrap ((I.k : Int) + 1) = (I.k : Int) + 1 := by rw [IntKind.wrap_i64]; omega
 have h3 : I.k + 1 < I.n ∨ I.n ≤ I.k + 1 := by omega
 rcases h3 with h3 | h3
 all_goals
  go_upto_region 5 with fail
  go_region_law (first | (go_simp; go_at_call 224; refine Calls.mono (HCP.out _ _ (by have := HPI.out; omega) H1.out.drew) ?_; rintro e w3 ⟨rfl, hus3, hA3⟩))
  all_goals
   go_simp
   go_wp2
   all_goals
    go_ret
    exact ⟨rfl, hus3, HA1.out.drew.trans hA3⟩
set_option maxRecDepth 100000 in
set_option maxHeartbeats 4000000 in
theorem plain_I (P : Nat) (us : List Value) (I : In) (hI : InOk I) (s : St) (w : World) (h : DI P w us I s) (hc0 : 0 ≤ s.cm.a) (hc1 : s.cm.a ≤ 999) (hd : s.cm.d = 73) (A : Int) (hA : firstF I.t = A) :
  Calls Try.prog 181 #[.pointer (some ⟨P, 0, none⟩)] w (DPost P I (0) ({ s with md := 1, p := A }) w) := by
 have HI := Lib.hid hI
 have htop := hI.top; have hk1 := hI.k1
 have h1 := h.alloc (.cells #[.pointer (some ⟨P, 0, none⟩)] 221)
 have hPw := h.lt
 have e0 : (w.alloc (.cells #[.pointer (some ⟨P, 0, none⟩)] 221)).cell? ⟨w.heap.size, 0, none⟩ = some (.pointer (some ⟨P, 0, none⟩)) := (Blk.new w #[.pointer (some ⟨P, 0, none⟩)] 221).cell 0
 have HA1 := Lib.hid (Asd.of (P := P) (below1 w (.cells #[.pointer (some ⟨P, 0, none⟩)] 221))).drew
 have hne : w.heap.size ≠ P := by omega
 obtain ⟨N, hN, hN1, hN2⟩ : ∃ N : Nat, max 1 s.cm.a = (N : Int) ∧ 1 ≤ N ∧ N ≤ 999 := ⟨(max 1 s.cm.a).toNat, by omega, by omega, by omega⟩
 have HD := Lib.hid hd
 have HAE := Lib.hid hA
 clear hA
 have c0 := h1.c0; have c29 := h1.c29; have c32 := h1.c32
 rw [hd] at c32
 have H1 := Lib.hid h1.drew
 obtain ⟨ct, hct⟩ : ∃ ct, s.cm.a = ct := ⟨_, rfl⟩
 rw [hct] at c29 hN hc0 hc1
 have HCT := Lib.hid hct
 have HNN := Lib.hid hN
 clear hI h h1 hct hN hd
 go_enter Try.func181, Try.ntmps181
 go_upto_region 1 with fail
 generalize (w.alloc (.cells #[.pointer (some ⟨P, 0, none⟩)] 221)) = w1 at *
 go_cut [3, 4] (fun u v wx => u = .int .i64 (N : Int) ∧ v = .int .i64 (I.n : Int) ∧ w1.drew = wx)
 case first =>
  have h3 : ct = 0 ∨ ct = 1 ∨ 2 ≤ ct := by omega
  rcases h3 with rfl | rfl | h3
  ·obtain rfl : N = 1 := by have := HNN.out; omega
   go_region_held3 (fun w' => w'.cell? ⟨P, 0, none⟩ = some (.slice I.a I.n I.c) ∧ w'.cell? ⟨P, 29, none⟩ = some (.int .i64 0) ∧ w'.cell? ⟨w.heap.size, 0, none⟩ = some (.pointer (some ⟨P, 0, none⟩))) (first | exact ⟨c0, c29, e0⟩ | assumption) (fail)
   all_goals
    go_wp2
    go_meet
    exact ⟨rfl, rfl, rfl⟩
  ·obtain rfl : N = 1 := by have := HNN.out; omega
   go_region_held3 (fun w' => w'.cell? ⟨P, 0, none⟩ = some (.slice I.a I.n I.c) ∧ w'.cell? ⟨P, 29, none⟩ = some (.int .i64 1) ∧ w'.cell? ⟨w.heap.size, 0, none⟩ = some (.pointer (some ⟨P, 0, none⟩))) (first | exact ⟨c0, c29, e0⟩ | assumption) (fail)
   all_goals
    go_wp2
    go_meet
    exact ⟨rfl, rfl, rfl⟩
  ·obtain rfl : ct = (N : Int) := by have := HNN.out; omega
   go_region_held3 (fun w' => w'.cell? ⟨P, 0, none⟩ = some (.slice I.a I.n I.c) ∧ w'.cell? ⟨P, 29, none⟩ = some (.int .i64 (N : Int)) ∧ w'.cell? ⟨w.heap.size, 0, none⟩ = some (.pointer (some ⟨P, 0, none⟩))) (first | exact ⟨c0, c29, e0⟩ | assumption) (fail)
   all_goals
    go_wp2
    go_meet
    exact ⟨rfl, rfl, rfl⟩
 obtain ⟨rfl, rfl, rfl⟩ := hcut
 clear c29 hc0 hc1
 replace e0 : w1.drew.cell? ⟨w.heap.size, 0, none⟩ = some (.pointer (some ⟨P, 0, none⟩)) := e0
 replace c32 : w1.drew.cell? ⟨P, 32, none⟩ = some (.int .i64 73) := c32
 replace c0 : w1.drew.cell? ⟨P, 0, none⟩ = some (.slice I.a I.n I.c) := c0
 generalize w1.drew = w2 at *
 clear w1
 have c65 := H1.out.c65; have f65 := H1.out.free 65
 have h9 := (H1.out.set65 1).drew
 have hgA : goA I.t I.k 94 0 0 false = A ∧ goE I.t I.k 94 0 0 false = 0 := by
  have hl := HI.out.len
  have hE : moveE I.t I.k 94 0 = 0 := by
   unfold moveE; rw [if_neg (by omega), if_neg (by omega)]; decide
  rw [goA, goE, if_pos hE, if_pos hE, ← HAE.out]
  exact ⟨rfl, rfl⟩
 obtain ⟨bb, hbb⟩ : ∃ bb, goB I.t I.k 94 0 0 false = bb := ⟨_, rfl⟩
 have GO := motion_go I.a I.n I.c I.t I.k 94 0 0 false _ (h9.sl HI.out) HI.out.len (by omega) ⟨by omega, by omega⟩
 rw [hgA.1, hgA.2, hbb] at GO
 unfold mvV at GO
 have HGO := Lib.hid GO
 have e9 : (w2.setCell ⟨P, 65, none⟩ (.int .i64 1)).drew.cell? ⟨w.heap.size, 0, none⟩ = some (.pointer (some ⟨P, 0, none⟩)) := ((Asd.set (.int .i64 1)).cell hne e0)
 have d0 := h9.c0; have d1 := h9.c1
 have hP9 : P < (w2.setCell ⟨P, 65, none⟩ (.int .i64 1)).heap.size := h9.lt
 have hB9 : w.heap.size < (w2.setCell ⟨P, 65, none⟩ (.int .i64 1)).heap.size := cell_lt e9
 have H9 := Lib.hid h9
 clear GO hgA hbb h9
 go_upto_region 23 with fail
 go_region_held3 (fun w' => w'.cell? ⟨P, 0, none⟩ = some (.slice I.a I.n I.c) ∧ w'.cell? ⟨P, 1, none⟩ = some (.int .i64 (I.k : Int)) ∧ w'.cell? ⟨w.heap.size, 0, none⟩ = some (.pointer (some ⟨P, 0, none⟩))) (first | exact ⟨d0, d1, e9⟩ | assumption | exact ⟨d0', d1', e0'⟩ | exact ⟨g0, g1, g2⟩) (first | (go_at_call 222; refine (HGO.out).mono ?_; rintro e w3 ⟨rfl, hb3⟩; have h10 := H9.out.to hb3; have c35' := h10.c35; have f35' := h10.free 35; have H10 := Lib.hid h10; have d0' := h10.c0; have d1' := h10.c1; have e0' : w3.cell? ⟨w.heap.size, 0, none⟩ = some (.pointer (some ⟨P, 0, none⟩)) := (by rw [hb3.cell hB9]; exact e9); have h12 := h10.set35 A; have g0 := h12.c0; have g1 := h12.c1; have g2 : (w3.setCell ⟨P, 35, none⟩ (.int .i64 A)).cell? ⟨w.heap.size, 0, none⟩ = some (.pointer (some ⟨P, 0, none⟩)) := (Asd.set _).cell hne e0'; clear h10 h12))
 all_goals
  go_wp2
  go_ret
  exact ⟨rfl, ⟨_, H10.out.set35 _⟩, ((HA1.out.trans (Asd.set _).drew).trans (Asd.of hb3)).trans (Asd.set _)⟩
set_option maxRecDepth 100000 in
set_option maxHeartbeats 4000000 in
theorem plain_t0 (P : Nat) (us : List Value) (I : In) (hI : InOk I) (s : St) (w : World) (h : DI P w us I s) (hc0 : 0 ≤ s.cm.a) (hc1 : s.cm.a ≤ 999) (hd : s.cm.d = 126) (hz : I.n = 0) :
  Calls Try.prog 181 #[.pointer (some ⟨P, 0, none⟩)] w (DPost P I (5) (s) w) := by
 have HI := Lib.hid hI
 have htop := hI.top; have hk1 := hI.k1
 have h1 := h.alloc (.cells #[.pointer (some ⟨P, 0, none⟩)] 221)
 have hPw := h.lt
 have e0 : (w.alloc (.cells #[.pointer (some ⟨P, 0, none⟩)] 221)).cell? ⟨w.heap.size, 0, none⟩ = some (.pointer (some ⟨P, 0, none⟩)) := (Blk.new w #[.pointer (some ⟨P, 0, none⟩)] 221).cell 0
 have HA1 := Lib.hid (Asd.of (P := P) (below1 w (.cells #[.pointer (some ⟨P, 0, none⟩)] 221))).drew
 have hne : w.heap.size ≠ P := by omega
 obtain ⟨N, hN, hN1, hN2⟩ : ∃ N : Nat, max 1 s.cm.a = (N : Int) ∧ 1 ≤ N ∧ N ≤ 999 := ⟨(max 1 s.cm.a).toNat, by omega, by omega, by omega⟩
 have HD := Lib.hid hd
 have HZ := Lib.hid hz
 clear hz
 have c0 := h1.c0; have c29 := h1.c29; have c32 := h1.c32
 rw [hd] at c32
 have H1 := Lib.hid h1.drew
 obtain ⟨ct, hct⟩ : ∃ ct, s.cm.a = ct := ⟨_, rfl⟩
 rw [hct] at c29 hN hc0 hc1
 have HCT := Lib.hid hct
 have HNN := Lib.hid hN
 clear hI h h1 hct hN hd
 go_enter Try.func181, Try.ntmps181
 go_upto_region 1 with fail
 generalize (w.alloc (.cells #[.pointer (some ⟨P, 0, none⟩)] 221)) = w1 at *
 go_cut [3, 4] (fun u v wx => u = .int .i64 (N : Int) ∧ v = .int .i64 (I.n : Int) ∧ w1.drew = wx)
 case first =>
  have h3 : ct = 0 ∨ ct = 1 ∨ 2 ≤ ct := by omega
  rcases h3 with rfl | rfl | h3
  ·obtain rfl : N = 1 := by have := HNN.out; omega
   go_region_held3 (fun w' => w'.cell? ⟨P, 0, none⟩ = some (.slice I.a I.n I.c) ∧ w'.cell? ⟨P, 29, none⟩ = some (.int .i64 0) ∧ w'.cell? ⟨w.heap.size, 0, none⟩ = some (.pointer (some ⟨P, 0, none⟩))) (first | exact ⟨c0, c29, e0⟩ | assumption) (fail)
   all_goals
    go_wp2
    go_meet
    exact ⟨rfl, rfl, rfl⟩
  ·obtain rfl : N = 1 := by have := HNN.out; omega
   go_region_held3 (fun w' => w'.cell? ⟨P, 0, none⟩ = some (.slice I.a I.n I.c) ∧ w'.cell? ⟨P, 29, none⟩ = some (.int .i64 1) ∧ w'.cell? ⟨w.heap.size, 0, none⟩ = some (.pointer (some ⟨P, 0, none⟩))) (first | exact ⟨c0, c29, e0⟩ | assumption) (fail)
   all_goals
    go_wp2
    go_meet
    exact ⟨rfl, rfl, rfl⟩
  ·obtain rfl : ct = (N : Int) := by have := HNN.out; omega
   go_region_held3 (fun w' => w'.cell? ⟨P, 0, none⟩ = some (.slice I.a I.n I.c) ∧ w'.cell? ⟨P, 29, none⟩ = some (.int .i64 (N : Int)) ∧ w'.cell? ⟨w.heap.size, 0, none⟩ = some (.pointer (some ⟨P, 0, none⟩))) (first | exact ⟨c0, c29, e0⟩ | assumption) (fail)
   all_goals
    go_wp2
    go_meet
    exact ⟨rfl, rfl, rfl⟩
 obtain ⟨rfl, rfl, rfl⟩ := hcut
 clear c29 hc0 hc1
 replace e0 : w1.drew.cell? ⟨w.heap.size, 0, none⟩ = some (.pointer (some ⟨P, 0, none⟩)) := e0
 replace c32 : w1.drew.cell? ⟨P, 32, none⟩ = some (.int .i64 126) := c32
 replace c0 : w1.drew.cell? ⟨P, 0, none⟩ = some (.slice I.a I.n I.c) := c0
 generalize w1.drew = w2 at *
 clear w1
 have iz : ((I.n : Int) == 0) = true := by rw [HZ.out]; rfl
 go_wp2
 go_ret
 exact ⟨rfl, ⟨_, H1.out⟩, HA1.out⟩
set_option maxRecDepth 100000 in
set_option maxHeartbeats 4000000 in
theorem plain_t (P : Nat) (us : List Value) (I : In) (hI : InOk I) (s : St) (w : World) (h : DI P w us I s) (hc0 : 0 ≤ s.cm.a) (hc1 : s.cm.a ≤ 999) (hd : s.cm.d = 126) (hz : I.n ≠ 0) (m : Nat) (hm : min (max 1 s.cm.a).toNat (I.n - I.k) = m) :
  Calls Try.prog 181 #[.pointer (some ⟨P, 0, none⟩)] w (DPost P I (0) ({ chS I s m turnV with p := clV ((I.k : Int) + (m : Int)) I.n }) w) := by
 have HI := Lib.hid hI
 have htop := hI.top; have hk1 := hI.k1
 have h1 := h.alloc (.cells #[.pointer (some ⟨P, 0, none⟩)] 221)
 have hPw := h.lt
 have e0 : (w.alloc (.cells #[.pointer (some ⟨P, 0, none⟩)] 221)).cell? ⟨w.heap.size, 0, none⟩ = some (.pointer (some ⟨P, 0, none⟩)) := (Blk.new w #[.pointer (some ⟨P, 0, none⟩)] 221).cell 0
 have HA1 := Lib.hid (Asd.of (P := P) (below1 w (.cells #[.pointer (some ⟨P, 0, none⟩)] 221))).drew
 have hne : w.heap.size ≠ P := by omega
 obtain ⟨N, hN, hN1, hN2⟩ : ∃ N : Nat, max 1 s.cm.a = (N : Int) ∧ 1 ≤ N ∧ N ≤ 999 := ⟨(max 1 s.cm.a).toNat, by omega, by omega, by omega⟩
 have HD := Lib.hid hd
 have HZ := Lib.hid hz
 have HMM := Lib.hid hm
 clear hz hm
 have c0 := h1.c0; have c29 := h1.c29; have c32 := h1.c32
 rw [hd] at c32
 have H1 := Lib.hid h1.drew
 obtain ⟨ct, hct⟩ : ∃ ct, s.cm.a = ct := ⟨_, rfl⟩
 rw [hct] at c29 hN hc0 hc1
 have HCT := Lib.hid hct
 have HNN := Lib.hid hN
 clear hI h h1 hct hN hd
 go_enter Try.func181, Try.ntmps181
 go_upto_region 1 with fail
 generalize (w.alloc (.cells #[.pointer (some ⟨P, 0, none⟩)] 221)) = w1 at *
 go_cut [3, 4] (fun u v wx => u = .int .i64 (N : Int) ∧ v = .int .i64 (I.n : Int) ∧ w1.drew = wx)
 case first =>
  have h3 : ct = 0 ∨ ct = 1 ∨ 2 ≤ ct := by omega
  rcases h3 with rfl | rfl | h3
  ·obtain rfl : N = 1 := by have := HNN.out; omega
   go_region_held3 (fun w' => w'.cell? ⟨P, 0, none⟩ = some (.slice I.a I.n I.c) ∧ w'.cell? ⟨P, 29, none⟩ = some (.int .i64 0) ∧ w'.cell? ⟨w.heap.size, 0, none⟩ = some (.pointer (some ⟨P, 0, none⟩))) (first | exact ⟨c0, c29, e0⟩ | assumption) (fail)
   all_goals
    go_wp2
    go_meet
    exact ⟨rfl, rfl, rfl⟩
  ·obtain rfl : N = 1 := by have := HNN.out; omega
   go_region_held3 (fun w' => w'.cell? ⟨P, 0, none⟩ = some (.slice I.a I.n I.c) ∧ w'.cell? ⟨P, 29, none⟩ = some (.int .i64 1) ∧ w'.cell? ⟨w.heap.size, 0, none⟩ = some (.pointer (some ⟨P, 0, none⟩))) (first | exact ⟨c0, c29, e0⟩ | assumption) (fail)
   all_goals
    go_wp2
    go_meet
    exact ⟨rfl, rfl, rfl⟩
  ·obtain rfl : ct = (N : Int) := by have := HNN.out; omega
   go_region_held3 (fun w' => w'.cell? ⟨P, 0, none⟩ = some (.slice I.a I.n I.c) ∧ w'.cell? ⟨P, 29, none⟩ = some (.int .i64 (N : Int)) ∧ w'.cell? ⟨w.heap.size, 0, none⟩ = some (.pointer (some ⟨P, 0, none⟩))) (first | exact ⟨c0, c29, e0⟩ | assumption) (fail)
   all_goals
    go_wp2
    go_meet
    exact ⟨rfl, rfl, rfl⟩
 obtain ⟨rfl, rfl, rfl⟩ := hcut
 clear c29 hc0 hc1
 replace e0 : w1.drew.cell? ⟨w.heap.size, 0, none⟩ = some (.pointer (some ⟨P, 0, none⟩)) := e0
 replace c32 : w1.drew.cell? ⟨P, 32, none⟩ = some (.int .i64 126) := c32
 replace c0 : w1.drew.cell? ⟨P, 0, none⟩ = some (.slice I.a I.n I.c) := c0
 generalize w1.drew = w2 at *
 clear w1
 have c1 := H1.out.c1
 have iz : ((I.n : Int) == 0) = false := by have := HZ.out; simpa using this
 have hk2 : I.k < I.n := by have := HZ.out; omega
 have hm2 : min N (I.n - I.k) = m := by have := HMM.out; rw [HCT.out, HNN.out, Int.toNat_natCast] at this; exact this
 have CH := change_turned P m us I HI.out s w2 H1.out (by omega)
 have HCH := Lib.hid CH
 have HM2 := Lib.hid hm2
 have hm3 : I.k + m ≤ I.n := by omega
 clear CH hm2
 go_upto_region 11 with fail
 go_cut [3] (fun u wx => u = .int .i64 (m : Int) ∧ w2 = wx)
 case first =>
  have h3 : N < I.n - I.k ∨ I.n - I.k ≤ N := by omega
  rcases h3 with h3 | h3
  all_goals
   go_wp2
   all_goals
    go_meet
    exact ⟨by congr 1; have := HM2.out; omega, rfl⟩
 obtain ⟨rfl, rfl⟩ := hcut
 clear c1
 go_wp2_with (go_at_call 225; go_loud (refine (HCH.out).mono ?_; rintro e w3 ⟨rfl, ⟨us3, h3⟩, hA3⟩))
 have e3 := hA3.cell hne e0
 have c1' := h3.drew.c1; have c35' := h3.drew.c35; have f35' := h3.drew.free 35
 have H3 := Lib.hid h3
 clear h3 c0 e0 c32
 go_upto_region 13 with fail
 have iw : IntKind.i64.wrap ((I.k : Int) + (m : Int)) = (I.k : Int) + m := by rw [IntKind.wrap_i64]; omega
 have h12 := H3.out.drew.set35 (clV ((I.k : Int) + (m : Int)) I.n)
 have g1 := h12.c1
 have g2 : (w3.drew.setCell ⟨P, 35, none⟩ (.int .i64 (clV ((I.k : Int) + (m : Int)) I.n))).cell? ⟨w.heap.size, 0, none⟩ = some (.pointer (some ⟨P, 0, none⟩)) := (Asd.set _).cell hne e3
 clear h12
 go_region_held3 (fun w' => w'.cell? ⟨P, 1, none⟩ = some (.int .i64 (I.k : Int)) ∧ w'.cell? ⟨w.heap.size, 0, none⟩ = some (.pointer (some ⟨P, 0, none⟩))) (first | exact ⟨c1', e3⟩ | assumption | exact ⟨g1, g2⟩) (first | (go_at_call 227; refine (edit_clamp _ _ _ (by omega) (by omega) (by omega) (by omega)).mono ?_; rintro e w4 ⟨rfl, rfl⟩))
 all_goals
  go_wp2
  go_ret
  exact ⟨rfl, ⟨_, H3.out.drew.set35 _⟩, (HA1.out.trans hA3.drew).trans (Asd.set _)⟩
set_option maxRecDepth 100000 in
set_option maxHeartbeats 4000000 in
theorem plain_r0 (P : Nat) (us : List Value) (I : In) (hI : InOk I) (s : St) (w : World) (h : DI P w us I s) (hc0 : 0 ≤ s.cm.a) (hc1 : s.cm.a ≤ 999) (hd : s.cm.d = 114) (hz : (I.n : Int) < I.k + max 1 s.cm.a) :
  Calls Try.prog 181 #[.pointer (some ⟨P, 0, none⟩)] w (DPost P I (5) (s) w) := by
 have HI := Lib.hid hI
 have htop := hI.top; have hk1 := hI.k1
 have h1 := h.alloc (.cells #[.pointer (some ⟨P, 0, none⟩)] 221)
 have hPw := h.lt
 have e0 : (w.alloc (.cells #[.pointer (some ⟨P, 0, none⟩)] 221)).cell? ⟨w.heap.size, 0, none⟩ = some (.pointer (some ⟨P, 0, none⟩)) := (Blk.new w #[.pointer (some ⟨P, 0, none⟩)] 221).cell 0
 have HA1 := Lib.hid (Asd.of (P := P) (below1 w (.cells #[.pointer (some ⟨P, 0, none⟩)] 221))).drew
 have hne : w.heap.size ≠ P := by omega
 obtain ⟨N, hN, hN1, hN2⟩ : ∃ N : Nat, max 1 s.cm.a = (N : Int) ∧ 1 ≤ N ∧ N ≤ 999 := ⟨(max 1 s.cm.a).toNat, by omega, by omega, by omega⟩
 have HD := Lib.hid hd
 have HZ := Lib.hid hz
 clear hz
 have c0 := h1.c0; have c29 := h1.c29; have c32 := h1.c32
 rw [hd] at c32
 have H1 := Lib.hid h1.drew
 obtain ⟨ct, hct⟩ : ∃ ct, s.cm.a = ct := ⟨_, rfl⟩
 rw [hct] at c29 hN hc0 hc1
 have HCT := Lib.hid hct
 have HNN := Lib.hid hN
 clear hI h h1 hct hN hd
 go_enter Try.func181, Try.ntmps181
 go_upto_region 1 with fail
 generalize (w.alloc (.cells #[.pointer (some ⟨P, 0, none⟩)] 221)) = w1 at *
 go_cut [3, 4] (fun u v wx => u = .int .i64 (N : Int) ∧ v = .int .i64 (I.n : Int) ∧ w1.drew = wx)
 case first =>
  have h3 : ct = 0 ∨ ct = 1 ∨ 2 ≤ ct := by omega
  rcases h3 with rfl | rfl | h3
  ·obtain rfl : N = 1 := by have := HNN.out; omega
   go_region_held3 (fun w' => w'.cell? ⟨P, 0, none⟩ = some (.slice I.a I.n I.c) ∧ w'.cell? ⟨P, 29, none⟩ = some (.int .i64 0) ∧ w'.cell? ⟨w.heap.size, 0, none⟩ = some (.pointer (some ⟨P, 0, none⟩))) (first | exact ⟨c0, c29, e0⟩ | assumption) (fail)
   all_goals
    go_wp2
    go_meet
    exact ⟨rfl, rfl, rfl⟩
  ·obtain rfl : N = 1 := by have := HNN.out; omega
   go_region_held3 (fun w' => w'.cell? ⟨P, 0, none⟩ = some (.slice I.a I.n I.c) ∧ w'.cell? ⟨P, 29, none⟩ = some (.int .i64 1) ∧ w'.cell? ⟨w.heap.size, 0, none⟩ = some (.pointer (some ⟨P, 0, none⟩))) (first | exact ⟨c0, c29, e0⟩ | assumption) (fail)
   all_goals
    go_wp2
    go_meet
    exact ⟨rfl, rfl, rfl⟩
  ·obtain rfl : ct = (N : Int) := by have := HNN.out; omega
   go_region_held3 (fun w' => w'.cell? ⟨P, 0, none⟩ = some (.slice I.a I.n I.c) ∧ w'.cell? ⟨P, 29, none⟩ = some (.int .i64 (N : Int)) ∧ w'.cell? ⟨w.heap.size, 0, none⟩ = some (.pointer (some ⟨P, 0, none⟩))) (first | exact ⟨c0, c29, e0⟩ | assumption) (fail)
   all_goals
    go_wp2
    go_meet
    exact ⟨rfl, rfl, rfl⟩
 obtain ⟨rfl, rfl, rfl⟩ := hcut
 clear c29 hc0 hc1
 replace e0 : w1.drew.cell? ⟨w.heap.size, 0, none⟩ = some (.pointer (some ⟨P, 0, none⟩)) := e0
 replace c32 : w1.drew.cell? ⟨P, 32, none⟩ = some (.int .i64 114) := c32
 replace c0 : w1.drew.cell? ⟨P, 0, none⟩ = some (.slice I.a I.n I.c) := c0
 generalize w1.drew = w2 at *
 clear w1
 have c1 := H1.out.c1
 have hz : (I.n : Int) < I.k + (N : Int) := by have := HZ.out; rw [HCT.out, HNN.out] at this; exact this
 go_wp2
 go_ret
 exact ⟨rfl, ⟨_, H1.out⟩, HA1.out⟩
set_option maxRecDepth 100000 in
set_option maxHeartbeats 4000000 in
theorem plain_r (P : Nat) (us : List Value) (I : In) (hI : InOk I) (s : St) (w : World) (h : DI P w us I s) (hc0 : 0 ≤ s.cm.a) (hc1 : s.cm.a ≤ 999) (hd : s.cm.d = 114) (m : Nat) (hm : max 1 s.cm.a = (m : Int)) (hz : I.k + m ≤ I.n) :
  Calls Try.prog 181 #[.pointer (some ⟨P, 0, none⟩)] w (DPost P I (0) ({ chS I s m (fun _ => s.cm.e) with p := (I.k : Int) + (m : Int) - 1 }) w) := by
 have HI := Lib.hid hI
 have htop := hI.top; have hk1 := hI.k1
 have h1 := h.alloc (.cells #[.pointer (some ⟨P, 0, none⟩)] 221)
 have hPw := h.lt
 have e0 : (w.alloc (.cells #[.pointer (some ⟨P, 0, none⟩)] 221)).cell? ⟨w.heap.size, 0, none⟩ = some (.pointer (some ⟨P, 0, none⟩)) := (Blk.new w #[.pointer (some ⟨P, 0, none⟩)] 221).cell 0
 have HA1 := Lib.hid (Asd.of (P := P) (below1 w (.cells #[.pointer (some ⟨P, 0, none⟩)] 221))).drew
 have hne : w.heap.size ≠ P := by omega
 obtain ⟨N, hN, hN1, hN2⟩ : ∃ N : Nat, max 1 s.cm.a = (N : Int) ∧ 1 ≤ N ∧ N ≤ 999 := ⟨(max 1 s.cm.a).toNat, by omega, by omega, by omega⟩
 have HD := Lib.hid hd
 have HMM := Lib.hid hm
 clear hm
 have c0 := h1.c0; have c29 := h1.c29; have c32 := h1.c32
 rw [hd] at c32
 have H1 := Lib.hid h1.drew
 obtain ⟨ct, hct⟩ : ∃ ct, s.cm.a = ct := ⟨_, rfl⟩
 rw [hct] at c29 hN hc0 hc1
 have HCT := Lib.hid hct
 have HNN := Lib.hid hN
 clear hI h h1 hct hN hd
 go_enter Try.func181, Try.ntmps181
 go_upto_region 1 with fail
 generalize (w.alloc (.cells #[.pointer (some ⟨P, 0, none⟩)] 221)) = w1 at *
 go_cut [3, 4] (fun u v wx => u = .int .i64 (N : Int) ∧ v = .int .i64 (I.n : Int) ∧ w1.drew = wx)
 case first =>
  have h3 : ct = 0 ∨ ct = 1 ∨ 2 ≤ ct := by omega
  rcases h3 with rfl | rfl | h3
  ·obtain rfl : N = 1 := by have := HNN.out; omega
   go_region_held3 (fun w' => w'.cell? ⟨P, 0, none⟩ = some (.slice I.a I.n I.c) ∧ w'.cell? ⟨P, 29, none⟩ = some (.int .i64 0) ∧ w'.cell? ⟨w.heap.size, 0, none⟩ = some (.pointer (some ⟨P, 0, none⟩))) (first | exact ⟨c0, c29, e0⟩ | assumption) (fail)
   all_goals
    go_wp2
    go_meet
    exact ⟨rfl, rfl, rfl⟩
  ·obtain rfl : N = 1 := by have := HNN.out; omega
   go_region_held3 (fun w' => w'.cell? ⟨P, 0, none⟩ = some (.slice I.a I.n I.c) ∧ w'.cell? ⟨P, 29, none⟩ = some (.int .i64 1) ∧ w'.cell? ⟨w.heap.size, 0, none⟩ = some (.pointer (some ⟨P, 0, none⟩))) (first | exact ⟨c0, c29, e0⟩ | assumption) (fail)
   all_goals
    go_wp2
    go_meet
    exact ⟨rfl, rfl, rfl⟩
  ·obtain rfl : ct = (N : Int) := by have := HNN.out; omega
   go_region_held3 (fun w' => w'.cell? ⟨P, 0, none⟩ = some (.slice I.a I.n I.c) ∧ w'.cell? ⟨P, 29, none⟩ = some (.int .i64 (N : Int)) ∧ w'.cell? ⟨w.heap.size, 0, none⟩ = some (.pointer (some ⟨P, 0, none⟩))) (first | exact ⟨c0, c29, e0⟩ | assumption) (fail)
   all_goals
    go_wp2
    go_meet
    exact ⟨rfl, rfl, rfl⟩
 obtain ⟨rfl, rfl, rfl⟩ := hcut
 clear c29 hc0 hc1
 replace e0 : w1.drew.cell? ⟨w.heap.size, 0, none⟩ = some (.pointer (some ⟨P, 0, none⟩)) := e0
 replace c32 : w1.drew.cell? ⟨P, 32, none⟩ = some (.int .i64 114) := c32
 replace c0 : w1.drew.cell? ⟨P, 0, none⟩ = some (.slice I.a I.n I.c) := c0
 generalize w1.drew = w2 at *
 clear w1
 have c1 := H1.out.c1
 obtain rfl : N = m := by have := HMM.out; rw [HCT.out, HNN.out] at this; exact Int.ofNat.inj this
 have CH := change_clos P N w.heap.size us I HI.out s w2 H1.out hz e0
 have HCH := Lib.hid CH
 clear CH
 go_wp2_with (go_at_call 225; go_loud (refine (HCH.out).mono ?_; rintro e w3 ⟨rfl, ⟨us3, h3⟩, hA3⟩))
 have e3 := hA3.cell hne e0
 have c1' := h3.drew.c1; have c35' := h3.drew.c35; have f35' := h3.drew.free 35
 have H3 := Lib.hid h3
 clear h3 c1 c0 e0 c32
 go_upto_region 18 with fail
 go_region
 all_goals
  go_wp2
  go_ret
  exact ⟨rfl, ⟨_, H3.out.drew.set35 _⟩, (HA1.out.trans hA3.drew).trans (Asd.set _)⟩
theorem doer_plain (P : Nat) (us : List Value) (I : In) (hI : InOk I) (s : St) (w : World) (h : DI P w us I s) (hc0 : 0 ≤ s.cm.a) (hc1 : s.cm.a ≤ 999) :
  Calls Try.prog 181 #[.pointer (some ⟨P, 0, none⟩)] w (DPost P I (plS I s).1 (plS I s).2 w) := by
 have hk1 := hI.k1
 by_cases h1 : s.cm.d = 112
 ·rw [plS, if_pos h1]; exact plain_p P us I hI s w h hc0 hc1 h1 _ rfl
 by_cases h2 : s.cm.d = 80
 ·rw [plS, if_neg h1, if_pos h2]; exact plain_P P us I hI s w h hc0 hc1 h2
 by_cases h3 : s.cm.d = 126
 ·rw [plS, if_neg h1, if_neg h2, if_pos h3]
  by_cases hz : I.n = 0
  ·rw [if_pos hz]; exact plain_t0 P us I hI s w h hc0 hc1 h3 hz
  ·rw [if_neg hz]
   have := plain_t P us I hI s w h hc0 hc1 h3 hz _ rfl
   rw [show clV ((I.k : Int) + ((min (max 1 s.cm.a).toNat (I.n - I.k) : Nat) : Int)) I.n = min ((I.k : Int) + max 1 s.cm.a) (I.n - 1) by unfold clV; omega] at this
   exact this
 by_cases h4 : s.cm.d = 114
 ·rw [plS, if_neg h1, if_neg h2, if_neg h3, if_pos h4]
  by_cases hz : (I.n : Int) < I.k + max 1 s.cm.a
  ·rw [if_pos hz]; exact plain_r0 P us I hI s w h hc0 hc1 h4 hz
  ·rw [if_neg hz]
   have hm : max 1 s.cm.a = ((max 1 s.cm.a).toNat : Int) := by omega
   have := plain_r P us I hI s w h hc0 hc1 h4 (max 1 s.cm.a).toNat hm (by omega)
   rw [← hm] at this
   exact this
 by_cases h5 : s.cm.d = 105
 ·rw [plS, if_neg h1, if_neg h2, if_neg h3, if_neg h4, if_pos h5]; exact plain_i P us I hI s w h hc0 hc1 h5
 by_cases h6 : s.cm.d = 73
 ·rw [plS, if_neg h1, if_neg h2, if_neg h3, if_neg h4, if_neg h5, if_pos h6]; exact plain_I P us I hI s w h hc0 hc1 h6 _ rfl
 by_cases h7 : s.cm.d = 97
 ·rw [plS, if_neg h1, if_neg h2, if_neg h3, if_neg h4, if_neg h5, if_neg h6, if_pos h7]; exact plain_a P us I hI s w h hc0 hc1 h7 _ rfl
 by_cases h8 : s.cm.d = 65
 ·rw [plS, if_neg h1, if_neg h2, if_neg h3, if_neg h4, if_neg h5, if_neg h6, if_neg h7, if_pos h8]; exact plain_A P us I hI s w h hc0 hc1 h8
 by_cases h9 : s.cm.d = 82
 ·rw [plS, if_neg h1, if_neg h2, if_neg h3, if_neg h4, if_neg h5, if_neg h6, if_neg h7, if_neg h8, if_pos h9]; exact plain_R P us I hI s w h hc0 hc1 h9
 rw [plS, if_neg h1, if_neg h2, if_neg h3, if_neg h4, if_neg h5, if_neg h6, if_neg h7, if_neg h8, if_neg h9]
 exact plain_no P us I hI s w h hc0 hc1 h1 h2 h3 h4 h5 h6 h7 h8 h9
def SpanPost (P : Int → Int → Int → Prop) (w : World) (e : Ending) (w' : World) : Prop :=
 ∃ a b er : Int, e = .returned (.tuple #[.agg #[.int .i64 a, .int .i64 b], .int .i64 er]) ∧ P a b er ∧ Below w.heap.size w w'
theorem words_span (a : Option Addr) (n c : Nat) (l : List Int) (big around : Bool) (k : Nat) (w : World) (ha : Ints w a l) (hn : l.length = n) (h2 : n ≤ 4096) (hk : k < n ∨ n = 0) :
  Calls Try.prog 231 #[.slice a n c, .int .i64 (k : Int), .bool around, .bool big] w (SpanPost (OfWP l around k big) w) := by
 by_cases h0 : n = 0
 ·subst h0
  refine (object_words_none c k a around big w).mono ?_
  rintro e w' ⟨rfl, hb⟩
  exact ⟨0, 0, 6, rfl, .inl ⟨hn, rfl, rfl, rfl⟩, hb⟩
 ·have hkn : k < n := by omega
  have fin : ∀ e w', WordsPost l big around k w e w' → SpanPost (OfWP l around k big) w e w' := by
   rintro e w' ⟨f, t, rfl, hW, _, hb⟩
   exact ⟨f, t, 0, rfl, .inr ⟨by omega, rfl, f, t, rfl, rfl, hW⟩, hb⟩
  rcases around with _ | _
  ·exact (object_words_in a n c l big k w ha hn h2 hkn).mono fin
  ·exact (object_words_around a n c l big k w ha hn h2 hkn).mono fin
theorem quotes_span (a : Option Addr) (n c : Nat) (l : List Int) (k : Nat) (around : Bool) (q : Int) (w : World) (ha : Ints w a l) (hn : l.length = n) (h2 : n ≤ 4096) (hk : k ≤ 4096) :
  Calls Try.prog 233 #[.slice a n c, .int .i64 (k : Int), .bool around, .int .i64 q] w (SpanPost (QuotesP l k around q) w) := by
 refine (object_quotes a n c l k around q w ha hn h2 hk).mono ?_
 rintro e w' ⟨⟨i, h1, h2, h3, rfl⟩ | ⟨h1, rfl⟩, hb⟩
 ·exact ⟨_, _, 0, rfl, .inl ⟨i, h1, h2, h3, rfl, rfl, rfl⟩, hb⟩
 ·exact ⟨0, 0, 6, rfl, .inr ⟨h1, rfl, rfl, rfl⟩, hb⟩
theorem brackets_span (a : Option Addr) (n c : Nat) (l : List Int) (k : Nat) (around : Bool) (o : Int) (w : World) (ha : Ints w a l) (hn : l.length = n) (h2 : n ≤ 4096) (hk : k ≤ 4096) :
  Calls Try.prog 232 #[.slice a n c, .int .i64 (k : Int), .bool around, .int .i64 o] w (SpanPost (BracketsP l (pRun l n n).out k around o) w) := by
 refine (object_brackets a n c l _ rfl k around o w ha hn h2 hk).mono ?_
 rintro e w' ⟨⟨i, h0, h1, h2, h3, rfl⟩ | ⟨h1, rfl⟩, hb⟩
 ·exact ⟨_, _, 0, rfl, .inl ⟨i, h0, h1, h2, h3, rfl, rfl, rfl⟩, hb⟩
 ·exact ⟨0, 0, 6, rfl, .inr ⟨h1, rfl, rfl, rfl⟩, hb⟩
set_option maxRecDepth 100000 in
set_option maxHeartbeats 1000000 in
theorem object_of_w (a : Option Addr) (n c : Nat) (l : List Int) (k : Nat) (big around : Bool) (key : Int) (hkey : key = if big = true then 87 else 119) (w : World) (ha : Ints w a l) (hn : l.length = n) (h2 : n ≤ 4096) (hk : k < n ∨ k = 0 ∧ n = 0) :
  Calls Try.prog 183 #[.slice a n c, .int .i64 (k : Int), .bool around, .int .i64 key] w (Out3 (OfWP l around k big) w) := by
 have HN := Lib.hid hn; clear hn
 have hA := Blk.new w #[.int .i64 0, .int .i64 0] 302
 have hb := below1 w (.cells #[.int .i64 0, .int .i64 0] 302)
 have HK := Lib.hid hk
 have hm : ¬ max 0 ((n : Int) - 1) < (k : Int) := by omega
 have hm0 : ¬ (k : Int) < 0 := by omega
 clear hk
 rcases (by omega : (n : Int) ≤ 1 ∨ (1 : Int) < (n : Int)) with hq | hq <;> rcases big with _ | _
 all_goals
  simp at hkey
  subst hkey
  go_enter Try.func183, Try.ntmps183
  go_wp2_with fail
  refine (words_span a n c l _ around k _ (ha.below hb) HN.out h2 (by have := HK.out; omega)).mono ?_
  rintro e w2 ⟨x, y, er, rfl, hP, hb2⟩
  have HP := Lib.hid hP
  have hA2 := hA.below hb2 hA.lt
  have hbb := below_then hb hb.size hb2
  clear hA hb hb2 hP
  obtain ⟨d0, d1, f0, f1⟩ := hA2.two
  obtain ⟨y0, y1, -, -⟩ := Blk.two ((hA2.set 0 (.int .i64 x)).set 1 (.int .i64 y))
  go_wp2
  go_quiet (fail)
  go_wp2
  go_ret3
  exact ⟨x, y, er, rfl, HP.out, below_drewN ((hbb.setCell (p := ⟨w.heap.size, 0, none⟩) (Nat.le_refl _) _).setCell (p := ⟨w.heap.size, 1, none⟩) (Nat.le_refl _) _) _⟩
set_option maxRecDepth 100000 in
set_option maxHeartbeats 2000000 in
theorem object_of_b (a : Option Addr) (n c : Nat) (l : List Int) (k : Nat) (around : Bool) (key o : Int) (hkey : openS key = o) (h0 : o ≠ 0) (w : World) (ha : Ints w a l) (hn : l.length = n) (h2 : n ≤ 4096) (hk : k < n ∨ k = 0 ∧ n = 0) :
  Calls Try.prog 183 #[.slice a n c, .int .i64 (k : Int), .bool around, .int .i64 key] w (Out3 (BracketsP l (pRun l n n).out k around o) w) := by
 have HN := Lib.hid hn; clear hn
 have hA := Blk.new w #[.int .i64 0, .int .i64 0] 302
 have hb := below1 w (.cells #[.int .i64 0, .int .i64 0] 302)
 have HK := Lib.hid hk
 have hm : ¬ max 0 ((n : Int) - 1) < (k : Int) := by omega
 have hm0 : ¬ (k : Int) < 0 := by omega
 clear hk
 have hkw : key = 40 ∨ key = 91 ∨ key = 123 ∨ key = 41 ∨ key = 93 ∨ key = 125 := by
  rcases sevenWays key with h | h | h | h | h | h | ⟨h1, h3, h4, h5, h6, h7⟩
  case inr.inr.inr.inr.inr.inr => exact absurd (by rw [← hkey]; simp [openS, h1, h3, h4, h5, h6, h7]) h0
  all_goals simp [h]
 rcases (by omega : (n : Int) ≤ 1 ∨ (1 : Int) < (n : Int)) with hq | hq <;> rcases hkw with h | h | h | h | h | h
 all_goals
  subst h
  simp [openS] at hkey
  subst hkey
  clear h0
  go_enter Try.func183, Try.ntmps183
  go_wp2_with fail
  refine (brackets_span a n c l k around _ _ (ha.below hb) HN.out h2 (by have := HK.out; omega)).mono ?_
  rintro e w2 ⟨x, y, er, rfl, hP, hb2⟩
  have HP := Lib.hid hP
  have hA2 := hA.below hb2 hA.lt
  have hbb := below_then hb hb.size hb2
  clear hA hb hb2 hP
  obtain ⟨d0, d1, f0, f1⟩ := hA2.two
  obtain ⟨y0, y1, -, -⟩ := Blk.two ((hA2.set 0 (.int .i64 x)).set 1 (.int .i64 y))
  go_wp2
  go_quiet (fail)
  go_wp2
  go_ret3
  exact ⟨x, y, er, rfl, HP.out, below_drewN ((hbb.setCell (p := ⟨w.heap.size, 0, none⟩) (Nat.le_refl _) _).setCell (p := ⟨w.heap.size, 1, none⟩) (Nat.le_refl _) _) _⟩
set_option maxRecDepth 100000 in
set_option maxHeartbeats 2000000 in
theorem object_of_q (a : Option Addr) (n c : Nat) (l : List Int) (k : Nat) (around : Bool) (key : Int) (hkey : key = 34 ∨ key = 39 ∨ key = 96) (w : World) (ha : Ints w a l) (hn : l.length = n) (h2 : n ≤ 4096) (hk : k < n ∨ k = 0 ∧ n = 0) :
  Calls Try.prog 183 #[.slice a n c, .int .i64 (k : Int), .bool around, .int .i64 key] w (Out3 (QuotesP l k around key) w) := by
 have HN := Lib.hid hn; clear hn
 have hA := Blk.new w #[.int .i64 0, .int .i64 0] 302
 have hb := below1 w (.cells #[.int .i64 0, .int .i64 0] 302)
 have HK := Lib.hid hk
 have hm : ¬ max 0 ((n : Int) - 1) < (k : Int) := by omega
 have hm0 : ¬ (k : Int) < 0 := by omega
 clear hk
 rcases (by omega : (n : Int) ≤ 1 ∨ (1 : Int) < (n : Int)) with hq | hq <;> rcases hkey with h | h | h
 all_goals
  subst h
  go_enter Try.func183, Try.ntmps183
  go_wp2_with fail
  refine (quotes_span a n c l k around _ _ (ha.below hb) HN.out h2 (by have := HK.out; omega)).mono ?_
  rintro e w2 ⟨x, y, er, rfl, hP, hb2⟩
  have HP := Lib.hid hP
  have hA2 := hA.below hb2 hA.lt
  have hbb := below_then hb hb.size hb2
  clear hA hb hb2 hP
  obtain ⟨d0, d1, f0, f1⟩ := hA2.two
  obtain ⟨y0, y1, -, -⟩ := Blk.two ((hA2.set 0 (.int .i64 x)).set 1 (.int .i64 y))
  go_wp2
  go_quiet (fail)
  go_wp2
  go_ret3
  exact ⟨x, y, er, rfl, HP.out, below_drewN ((hbb.setCell (p := ⟨w.heap.size, 0, none⟩) (Nat.le_refl _) _).setCell (p := ⟨w.heap.size, 1, none⟩) (Nat.le_refl _) _) _⟩
set_option maxRecDepth 100000 in
set_option maxHeartbeats 1000000 in
theorem object_of_key (a : Option Addr) (n c : Nat) (k : Nat) (around : Bool) (key : Int) (hw : key ≠ 119) (hW : key ≠ 87) (hq1 : key ≠ 34) (hq2 : key ≠ 39) (hq3 : key ≠ 96) (h0 : openS key = 0) (w : World) (h2 : n ≤ 4096) (hk : k < n ∨ k = 0 ∧ n = 0) :
  Calls Try.prog 183 #[.slice a n c, .int .i64 (k : Int), .bool around, .int .i64 key] w (Out3 (fun x y z => x = 0 ∧ y = 0 ∧ z = 9) w) := by
 have hA := Blk.new w #[.int .i64 0, .int .i64 0] 302
 have hb := below1 w (.cells #[.int .i64 0, .int .i64 0] 302)
 have hm : ¬ max 0 ((n : Int) - 1) < (k : Int) := by omega
 have hm0 : ¬ (k : Int) < 0 := by omega
 clear hk
 obtain ⟨y0, y1, -, -⟩ := hA.two
 rcases sevenWays key with h | h | h | h | h | h | ⟨h1, h3, h4, h5, h6, h7⟩
 case inr.inr.inr.inr.inr.inr =>
  clear h0 hA
  have b1 : (key == 119) = false := by simpa using hw
  have b2 : (key == 87) = false := by simpa using hW
  have b3 : (key == 34) = false := by simpa using hq1
  have b4 : (key == 39) = false := by simpa using hq2
  have b5 : (key == 96) = false := by simpa using hq3
  have b6 : (key == 40) = false := by simpa using h1
  have b7 : (key == 91) = false := by simpa using h3
  have b8 : (key == 123) = false := by simpa using h4
  have b9 : (key == 41) = false := by simpa using h5
  have b10 : (key == 93) = false := by simpa using h6
  have b11 : (key == 125) = false := by simpa using h7
  clear hw hW hq1 hq2 hq3 h1 h3 h4 h5 h6 h7
  go_enter Try.func183, Try.ntmps183
  go_wp2
  all_goals
   go_quiet (fail)
   go_wp2
   go_ret3
   exact ⟨0, 0, 9, rfl, ⟨rfl, rfl, rfl⟩, below_drewN hb _⟩
 all_goals
  subst h
  simp [openS] at h0
theorem object_of_in (a : Option Addr) (n c : Nat) (l : List Int) (k : Nat) (around : Bool) (key : Int) (w : World) (ha : Ints w a l) (hn : l.length = n) (h2 : n ≤ 4096) (hk : k < n ∨ k = 0 ∧ n = 0) :
  Calls Try.prog 183 #[.slice a n c, .int .i64 (k : Int), .bool around, .int .i64 key] w (Out3 (OfP l (pRun l n n).out around k key) w) := by
 have fin : ∀ (P Q : Int → Int → Int → Prop), (∀ x y z, P x y z → Q x y z) → ∀ e w', Out3 P w e w' → Out3 Q w e w' := by
  rintro P Q hPQ e w' ⟨x, y, z, he, hP, hb⟩
  exact ⟨x, y, z, he, hPQ x y z hP, hb⟩
 by_cases h1 : key = 119
 ·exact (object_of_w a n c l k false around key (by simpa using h1) w ha hn h2 hk).mono (fin _ _ fun x y z h => by unfold OfP; rw [if_pos h1]; exact h)
 ·by_cases h3 : key = 87
  ·exact (object_of_w a n c l k true around key (by simpa using h3) w ha hn h2 hk).mono (fin _ _ fun x y z h => by unfold OfP; rw [if_neg h1, if_pos h3]; exact h)
  ·by_cases h4 : key = 34 ∨ key = 39 ∨ key = 96
   ·exact (object_of_q a n c l k around key h4 w ha hn h2 hk).mono (fin _ _ fun x y z h => by unfold OfP; rw [if_neg h1, if_neg h3, if_pos h4]; exact h)
   ·by_cases h5 : openS key = 0
    ·exact (object_of_key a n c k around key h1 h3 (fun h => h4 (.inl h)) (fun h => h4 (.inr (.inl h))) (fun h => h4 (.inr (.inr h))) h5 w h2 hk).mono (fin _ _ fun x y z h => by unfold OfP; rw [if_neg h1, if_neg h3, if_neg h4, if_pos h5]; exact h)
    ·exact (object_of_b a n c l k around key _ rfl h5 w ha hn h2 hk).mono (fin _ _ fun x y z h => by unfold OfP; rw [if_neg h1, if_neg h3, if_neg h4, if_neg h5]; exact h)
noncomputable def obS (I : In) (s : St) (ar : Bool) : Int × St :=
 if (ofR I.t I.n ar I.k s.cm.e).2.2 ≠ 0 then ((ofR I.t I.n ar I.k s.cm.e).2.2, s)
 else opS I s (ofR I.t I.n ar I.k s.cm.e).1.toNat (ofR I.t I.n ar I.k s.cm.e).2.1.toNat false
theorem lgC_op {c : C5} (h : c.c ≠ 0) : lgC c = c := by unfold lgC; rw [if_pos h]
theorem lgC_no {c : C5} (h : c.c = 0) (h2 : shK c.d = none) : lgC c = c := by unfold lgC; rw [if_neg (by simpa using h)]; unfold shC; rw [h2]
theorem lgC_sh {c : C5} (h : c.c = 0) : lgC c = shC c := by unfold lgC; rw [if_neg (by simpa using h)]
set_option maxRecDepth 100000 in
set_option maxHeartbeats 4000000 in
theorem one_mot (P : Nat) (us : List Value) (I : In) (hI : InOk I) (s : St) (w : World) (h : DI P w us I s) (cm : C5) (hcm : lgC s.cm = cm) (hd : motB cm.d = true) (hf : s.fk = 0 ∨ fiB s.fk = true) :
  Calls Try.prog 140 #[.pointer (some ⟨P, 0, none⟩)] w (DPost P I ((mvS I { s with cm := cm }).1) ((mvS I { s with cm := cm }).2) w) := by
 have HI := Lib.hid hI
 have htop := hI.top; have hk1 := hI.k1
 have c29 := h.c29; have c30 := h.c30; have c31 := h.c31; have c32 := h.c32; have c33 := h.c33
 have f29 := h.free 29; have f30 := h.free 30; have f31 := h.free 31; have f32 := h.free 32; have f33 := h.free 33
 have hPw := h.lt
 have HX := Lib.hid h
 have HD := Lib.hid hd
 have HF := Lib.hid hf
 obtain ⟨c, hc⟩ : ∃ c, s.cm = c := ⟨_, rfl⟩
 rw [hc] at c29 c30 c31 c32 c33 hcm
 have HC := Lib.hid hc
 have HL := Lib.hid hcm
 clear h hI hcm hc hd hf
 go_enter Try.func140, Try.ntmps140
 go_upto_if 13 with fail
 go_cut [2] (fun v wx => v = .int .i64 0 ∧ (∃ us', DI P wx us' I { s with cm := cm }) ∧ Asd P w wx)
 case first =>
  clear HI
  by_cases h0 : c.c = 0
  ·have z0 : (c.c == 0) = true := by simpa using h0
   have CS := fun w => edit_short c w
   have e1 := lgC_sh h0
   obtain ⟨c', hc'⟩ : ∃ c', shC c = c' := ⟨_, rfl⟩
   rw [hc'] at CS e1
   have hS : ∀ (w : World), Calls Try.prog 179 #[.agg #[.int .i64 c.a, .int .i64 c.b, .int .i64 c.c, .int .i64 c.d, .int .i64 c.e]] w (fun e w' => e = .returned (.tuple #[.agg #[.int .i64 c'.a, .int .i64 c'.b, .int .i64 c'.c, .int .i64 c'.d, .int .i64 c'.e], .bool (shK c.d).isSome]) ∧ Below w.heap.size w w') := fun w => by
    have := CS w
    unfold C5.v at this
    exact this
   have hno : shK c.d = none → c' = c := fun hn => by rw [← e1]; exact lgC_no h0 hn
   have HS := Lib.hid hS
   have HE1 := Lib.hid e1
   have HNO := Lib.hid hno
   clear CS hS e1 hc' hno h0
   rcases hk : shK c.d with _ | pq
   ·rw [hk] at HS
    have isn : (none : Option (Int × Int)).isSome = false := rfl
    have HK := Lib.hid hk
    clear hk
    go_wp2_with (go_at_call 179; refine (HS.out _).mono ?_; rintro e w8 ⟨rfl, hb8⟩; have HB8 := Lib.hid hb8; clear hb8)
    go_meet
    exact ⟨rfl, ⟨us, by have e : cm = s.cm := by { rw [← HL.out, HE1.out, HNO.out HK.out, ← HC.out] }; rw [e]; exact (HX.out.to HB8.out).alloc _⟩, (Asd.of HB8.out).trans (Asd.of (below1 _ _))⟩
   ·rw [hk] at HS
    have isn : (some pq : Option (Int × Int)).isSome = true := rfl
    clear hk
    go_wp2_with (go_at_call 179; refine (HS.out _).mono ?_; rintro e w8 ⟨rfl, hb8⟩; have hC8 := HX.out.to hb8; have g29 := hC8.c29; have g30 := hC8.c30; have g31 := hC8.c31; have g32 := hC8.c32; have g33 := hC8.c33; have k29 := hC8.free 29; have k30 := hC8.free 30; have k31 := hC8.free 31; have k32 := hC8.free 32; have k33 := hC8.free 33; have hlt8 := hC8.lt; have HC8 := Lib.hid hC8; have HB8 := Lib.hid hb8; clear hb8 hC8)
    go_meet
    exact ⟨rfl, ⟨_, by have e : cm = c' := HL.out.symm.trans HE1.out; rw [e]; exact (HC8.out.setCmd c').alloc _⟩, ((Asd.of HB8.out).trans (Asd.setCells c'.cells)).trans (Asd.of (below1 _ _))⟩
  ·have n0 : (c.c == 0) = false := by simpa using h0
   have e1 := lgC_op h0
   have HE1 := Lib.hid e1
   clear h0 e1
   go_wp2
   go_meet
   exact ⟨rfl, ⟨us, by have := HX.out; rw [← HL.out, HE1.out, ← HC.out]; exact this⟩, Asd.refl _ _⟩
 obtain ⟨rfl, ⟨us1, h1⟩, hA1⟩ := hcut
 clear c29 c30 c31 c32 c33 f29 f30 f31 f32 f33
 have c32 : wc.cell? ⟨P, 32, none⟩ = some (.int .i64 cm.d) := h1.c32
 have HMV := Lib.hid (doer_move P us1 I HI.out _ wc h1 HF.out)
 have hd := HD.out
 obtain ⟨d, he⟩ : ∃ d, cm.d = d := ⟨_, rfl⟩
 rw [he] at c32 hd
 have H1 := Lib.hid h1
 have hds : d = 104 ∨ d = 108 ∨ d = 48 ∨ d = 94 ∨ d = 36 ∨ d = 124 ∨ d = 119 ∨ d = 87 ∨ d = 98 ∨ d = 66 ∨ d = 101 ∨ d = 69 ∨ d = 37 ∨ d = 102 ∨ d = 70 ∨ d = 116 ∨ d = 84 ∨ d = 59 ∨ d = 44 := by
  simpa [motB] using hd
 clear hd he h1
 rcases hds with rfl | rfl | rfl | rfl | rfl | rfl | rfl | rfl | rfl | rfl | rfl | rfl | rfl | rfl | rfl | rfl | rfl | rfl | rfl
 all_goals
  go_wp2_with (go_at_call 180; go_loud (refine (HMV.out).mono ?_; rintro e w3 ⟨rfl, hus3, hA3⟩))
  go_ret
  exact ⟨rfl, hus3, hA1.trans hA3⟩
set_option maxRecDepth 100000 in
set_option maxHeartbeats 4000000 in
theorem one_plain (P : Nat) (us : List Value) (I : In) (hI : InOk I) (s : St) (w : World) (h : DI P w us I s) (cm : C5) (hcm : lgC s.cm = cm) (hd : motB cm.d = false) (h0 : cm.c = 0) (hc0 : 0 ≤ cm.a) (hc1 : cm.a ≤ 999) :
  Calls Try.prog 140 #[.pointer (some ⟨P, 0, none⟩)] w (DPost P I ((plS I { s with cm := cm }).1) ((plS I { s with cm := cm }).2) w) := by
 have HI := Lib.hid hI
 have htop := hI.top; have hk1 := hI.k1
 have c29 := h.c29; have c30 := h.c30; have c31 := h.c31; have c32 := h.c32; have c33 := h.c33
 have f29 := h.free 29; have f30 := h.free 30; have f31 := h.free 31; have f32 := h.free 32; have f33 := h.free 33
 have hPw := h.lt
 have HX := Lib.hid h
 have HD := Lib.hid hd
 have H0 := Lib.hid h0
 have HB := Lib.hid (And.intro hc0 hc1)
 obtain ⟨c, hc⟩ : ∃ c, s.cm = c := ⟨_, rfl⟩
 rw [hc] at c29 c30 c31 c32 c33 hcm
 have HC := Lib.hid hc
 have HL := Lib.hid hcm
 clear h hI hcm hc hd h0 hc0 hc1
 go_enter Try.func140, Try.ntmps140
 go_upto_if 13 with fail
 go_cut [2] (fun v wx => v = .int .i64 0 ∧ (∃ us', DI P wx us' I { s with cm := cm }) ∧ Asd P w wx)
 case first =>
  clear HI
  by_cases h0 : c.c = 0
  ·have z0 : (c.c == 0) = true := by simpa using h0
   have CS := fun w => edit_short c w
   have e1 := lgC_sh h0
   obtain ⟨c', hc'⟩ : ∃ c', shC c = c' := ⟨_, rfl⟩
   rw [hc'] at CS e1
   have hS : ∀ (w : World), Calls Try.prog 179 #[.agg #[.int .i64 c.a, .int .i64 c.b, .int .i64 c.c, .int .i64 c.d, .int .i64 c.e]] w (fun e w' => e = .returned (.tuple #[.agg #[.int .i64 c'.a, .int .i64 c'.b, .int .i64 c'.c, .int .i64 c'.d, .int .i64 c'.e], .bool (shK c.d).isSome]) ∧ Below w.heap.size w w') := fun w => by
    have := CS w
    unfold C5.v at this
    exact this
   have hno : shK c.d = none → c' = c := fun hn => by rw [← e1]; exact lgC_no h0 hn
   have HS := Lib.hid hS
   have HE1 := Lib.hid e1
   have HNO := Lib.hid hno
   clear CS hS e1 hc' hno h0
   rcases hk : shK c.d with _ | pq
   ·rw [hk] at HS
    have isn : (none : Option (Int × Int)).isSome = false := rfl
    have HK := Lib.hid hk
    clear hk
    go_wp2_with (go_at_call 179; refine (HS.out _).mono ?_; rintro e w8 ⟨rfl, hb8⟩; have HB8 := Lib.hid hb8; clear hb8)
    go_meet
    exact ⟨rfl, ⟨us, by have e : cm = s.cm := by { rw [← HL.out, HE1.out, HNO.out HK.out, ← HC.out] }; rw [e]; exact (HX.out.to HB8.out).alloc _⟩, (Asd.of HB8.out).trans (Asd.of (below1 _ _))⟩
   ·rw [hk] at HS
    have isn : (some pq : Option (Int × Int)).isSome = true := rfl
    clear hk
    go_wp2_with (go_at_call 179; refine (HS.out _).mono ?_; rintro e w8 ⟨rfl, hb8⟩; have hC8 := HX.out.to hb8; have g29 := hC8.c29; have g30 := hC8.c30; have g31 := hC8.c31; have g32 := hC8.c32; have g33 := hC8.c33; have k29 := hC8.free 29; have k30 := hC8.free 30; have k31 := hC8.free 31; have k32 := hC8.free 32; have k33 := hC8.free 33; have hlt8 := hC8.lt; have HC8 := Lib.hid hC8; have HB8 := Lib.hid hb8; clear hb8 hC8)
    go_meet
    exact ⟨rfl, ⟨_, by have e : cm = c' := HL.out.symm.trans HE1.out; rw [e]; exact (HC8.out.setCmd c').alloc _⟩, ((Asd.of HB8.out).trans (Asd.setCells c'.cells)).trans (Asd.of (below1 _ _))⟩
  ·have n0 : (c.c == 0) = false := by simpa using h0
   have e1 := lgC_op h0
   have HE1 := Lib.hid e1
   clear h0 e1
   go_wp2
   go_meet
   exact ⟨rfl, ⟨us, by have := HX.out; rw [← HL.out, HE1.out, ← HC.out]; exact this⟩, Asd.refl _ _⟩
 obtain ⟨rfl, ⟨us1, h1⟩, hA1⟩ := hcut
 clear c29 c30 c31 c32 c33 f29 f30 f31 f32 f33
 have m104 : (cm.d == 104) = false := by have := HD.out; simp only [motB, List.contains_eq_mem, List.mem_cons, List.not_mem_nil, decide_eq_false_iff_not, not_or] at this; simpa using this.1
 have m108 : (cm.d == 108) = false := by have := HD.out; simp only [motB, List.contains_eq_mem, List.mem_cons, List.not_mem_nil, decide_eq_false_iff_not, not_or] at this; simpa using this.2.1
 have m48 : (cm.d == 48) = false := by have := HD.out; simp only [motB, List.contains_eq_mem, List.mem_cons, List.not_mem_nil, decide_eq_false_iff_not, not_or] at this; simpa using this.2.2.1
 have m94 : (cm.d == 94) = false := by have := HD.out; simp only [motB, List.contains_eq_mem, List.mem_cons, List.not_mem_nil, decide_eq_false_iff_not, not_or] at this; simpa using this.2.2.2.1
 have m36 : (cm.d == 36) = false := by have := HD.out; simp only [motB, List.contains_eq_mem, List.mem_cons, List.not_mem_nil, decide_eq_false_iff_not, not_or] at this; simpa using this.2.2.2.2.1
 have m124 : (cm.d == 124) = false := by have := HD.out; simp only [motB, List.contains_eq_mem, List.mem_cons, List.not_mem_nil, decide_eq_false_iff_not, not_or] at this; simpa using this.2.2.2.2.2.1
 have m119 : (cm.d == 119) = false := by have := HD.out; simp only [motB, List.contains_eq_mem, List.mem_cons, List.not_mem_nil, decide_eq_false_iff_not, not_or] at this; simpa using this.2.2.2.2.2.2.1
 have m87 : (cm.d == 87) = false := by have := HD.out; simp only [motB, List.contains_eq_mem, List.mem_cons, List.not_mem_nil, decide_eq_false_iff_not, not_or] at this; simpa using this.2.2.2.2.2.2.2.1
 have m98 : (cm.d == 98) = false := by have := HD.out; simp only [motB, List.contains_eq_mem, List.mem_cons, List.not_mem_nil, decide_eq_false_iff_not, not_or] at this; simpa using this.2.2.2.2.2.2.2.2.1
 have m66 : (cm.d == 66) = false := by have := HD.out; simp only [motB, List.contains_eq_mem, List.mem_cons, List.not_mem_nil, decide_eq_false_iff_not, not_or] at this; simpa using this.2.2.2.2.2.2.2.2.2.1
 have m101 : (cm.d == 101) = false := by have := HD.out; simp only [motB, List.contains_eq_mem, List.mem_cons, List.not_mem_nil, decide_eq_false_iff_not, not_or] at this; simpa using this.2.2.2.2.2.2.2.2.2.2.1
 have m69 : (cm.d == 69) = false := by have := HD.out; simp only [motB, List.contains_eq_mem, List.mem_cons, List.not_mem_nil, decide_eq_false_iff_not, not_or] at this; simpa using this.2.2.2.2.2.2.2.2.2.2.2.1
 have m37 : (cm.d == 37) = false := by have := HD.out; simp only [motB, List.contains_eq_mem, List.mem_cons, List.not_mem_nil, decide_eq_false_iff_not, not_or] at this; simpa using this.2.2.2.2.2.2.2.2.2.2.2.2.1
 have m102 : (cm.d == 102) = false := by have := HD.out; simp only [motB, List.contains_eq_mem, List.mem_cons, List.not_mem_nil, decide_eq_false_iff_not, not_or] at this; simpa using this.2.2.2.2.2.2.2.2.2.2.2.2.2.1
 have m70 : (cm.d == 70) = false := by have := HD.out; simp only [motB, List.contains_eq_mem, List.mem_cons, List.not_mem_nil, decide_eq_false_iff_not, not_or] at this; simpa using this.2.2.2.2.2.2.2.2.2.2.2.2.2.2.1
 have m116 : (cm.d == 116) = false := by have := HD.out; simp only [motB, List.contains_eq_mem, List.mem_cons, List.not_mem_nil, decide_eq_false_iff_not, not_or] at this; simpa using this.2.2.2.2.2.2.2.2.2.2.2.2.2.2.2.1
 have m84 : (cm.d == 84) = false := by have := HD.out; simp only [motB, List.contains_eq_mem, List.mem_cons, List.not_mem_nil, decide_eq_false_iff_not, not_or] at this; simpa using this.2.2.2.2.2.2.2.2.2.2.2.2.2.2.2.2.1
 have m59 : (cm.d == 59) = false := by have := HD.out; simp only [motB, List.contains_eq_mem, List.mem_cons, List.not_mem_nil, decide_eq_false_iff_not, not_or] at this; simpa using this.2.2.2.2.2.2.2.2.2.2.2.2.2.2.2.2.2.1
 have m44 : (cm.d == 44) = false := by have := HD.out; simp only [motB, List.contains_eq_mem, List.mem_cons, List.not_mem_nil, decide_eq_false_iff_not, not_or] at this; simpa using this.2.2.2.2.2.2.2.2.2.2.2.2.2.2.2.2.2.2.1
 have c32 : wc.cell? ⟨P, 32, none⟩ = some (.int .i64 cm.d) := h1.c32
 have c31 : wc.cell? ⟨P, 31, none⟩ = some (.int .i64 cm.c) := h1.c31
 rw [H0.out] at c31
 have HMV := Lib.hid (doer_plain P us1 I HI.out _ wc h1 HB.out.1 HB.out.2)
 clear h1
 go_wp2_with (go_at_call 181; go_loud (refine (HMV.out).mono ?_; rintro e w3 ⟨rfl, hus3, hA3⟩))
 go_ret
 exact ⟨rfl, hus3, hA1.trans hA3⟩
set_option maxRecDepth 100000 in
set_option maxHeartbeats 4000000 in
theorem one_all (P : Nat) (us : List Value) (I : In) (hI : InOk I) (s : St) (w : World) (h : DI P w us I s) (cm : C5) (hcm : lgC s.cm = cm) (hd : motB cm.d = false) (h0 : cm.c ≠ 0) (he : cm.d = cm.c) :
  Calls Try.prog 140 #[.pointer (some ⟨P, 0, none⟩)] w (DPost P I ((opS I { s with cm := cm } 0 I.n true).1) ((opS I { s with cm := cm } 0 I.n true).2) w) := by
 have HI := Lib.hid hI
 have htop := hI.top; have hk1 := hI.k1
 have c29 := h.c29; have c30 := h.c30; have c31 := h.c31; have c32 := h.c32; have c33 := h.c33
 have f29 := h.free 29; have f30 := h.free 30; have f31 := h.free 31; have f32 := h.free 32; have f33 := h.free 33
 have hPw := h.lt
 have HX := Lib.hid h
 have HD := Lib.hid hd
 have H0 := Lib.hid h0
 have HE := Lib.hid he
 obtain ⟨c, hc⟩ : ∃ c, s.cm = c := ⟨_, rfl⟩
 rw [hc] at c29 c30 c31 c32 c33 hcm
 have HC := Lib.hid hc
 have HL := Lib.hid hcm
 clear h hI hcm hc hd h0 he
 go_enter Try.func140, Try.ntmps140
 go_upto_if 13 with fail
 go_cut [2] (fun v wx => v = .int .i64 0 ∧ (∃ us', DI P wx us' I { s with cm := cm }) ∧ Asd P w wx)
 case first =>
  clear HI
  by_cases h0 : c.c = 0
  ·have z0 : (c.c == 0) = true := by simpa using h0
   have CS := fun w => edit_short c w
   have e1 := lgC_sh h0
   obtain ⟨c', hc'⟩ : ∃ c', shC c = c' := ⟨_, rfl⟩
   rw [hc'] at CS e1
   have hS : ∀ (w : World), Calls Try.prog 179 #[.agg #[.int .i64 c.a, .int .i64 c.b, .int .i64 c.c, .int .i64 c.d, .int .i64 c.e]] w (fun e w' => e = .returned (.tuple #[.agg #[.int .i64 c'.a, .int .i64 c'.b, .int .i64 c'.c, .int .i64 c'.d, .int .i64 c'.e], .bool (shK c.d).isSome]) ∧ Below w.heap.size w w') := fun w => by
    have := CS w
    unfold C5.v at this
    exact this
   have hno : shK c.d = none → c' = c := fun hn => by rw [← e1]; exact lgC_no h0 hn
   have HS := Lib.hid hS
   have HE1 := Lib.hid e1
   have HNO := Lib.hid hno
   clear CS hS e1 hc' hno h0
   rcases hk : shK c.d with _ | pq
   ·rw [hk] at HS
    have isn : (none : Option (Int × Int)).isSome = false := rfl
    have HK := Lib.hid hk
    clear hk
    go_wp2_with (go_at_call 179; refine (HS.out _).mono ?_; rintro e w8 ⟨rfl, hb8⟩; have HB8 := Lib.hid hb8; clear hb8)
    go_meet
    exact ⟨rfl, ⟨us, by have e : cm = s.cm := by { rw [← HL.out, HE1.out, HNO.out HK.out, ← HC.out] }; rw [e]; exact (HX.out.to HB8.out).alloc _⟩, (Asd.of HB8.out).trans (Asd.of (below1 _ _))⟩
   ·rw [hk] at HS
    have isn : (some pq : Option (Int × Int)).isSome = true := rfl
    clear hk
    go_wp2_with (go_at_call 179; refine (HS.out _).mono ?_; rintro e w8 ⟨rfl, hb8⟩; have hC8 := HX.out.to hb8; have g29 := hC8.c29; have g30 := hC8.c30; have g31 := hC8.c31; have g32 := hC8.c32; have g33 := hC8.c33; have k29 := hC8.free 29; have k30 := hC8.free 30; have k31 := hC8.free 31; have k32 := hC8.free 32; have k33 := hC8.free 33; have hlt8 := hC8.lt; have HC8 := Lib.hid hC8; have HB8 := Lib.hid hb8; clear hb8 hC8)
    go_meet
    exact ⟨rfl, ⟨_, by have e : cm = c' := HL.out.symm.trans HE1.out; rw [e]; exact (HC8.out.setCmd c').alloc _⟩, ((Asd.of HB8.out).trans (Asd.setCells c'.cells)).trans (Asd.of (below1 _ _))⟩
  ·have n0 : (c.c == 0) = false := by simpa using h0
   have e1 := lgC_op h0
   have HE1 := Lib.hid e1
   clear h0 e1
   go_wp2
   go_meet
   exact ⟨rfl, ⟨us, by have := HX.out; rw [← HL.out, HE1.out, ← HC.out]; exact this⟩, Asd.refl _ _⟩
 obtain ⟨rfl, ⟨us1, h1⟩, hA1⟩ := hcut
 clear c29 c30 c31 c32 c33 f29 f30 f31 f32 f33
 have m104 : (cm.d == 104) = false := by have := HD.out; simp only [motB, List.contains_eq_mem, List.mem_cons, List.not_mem_nil, decide_eq_false_iff_not, not_or] at this; simpa using this.1
 have m108 : (cm.d == 108) = false := by have := HD.out; simp only [motB, List.contains_eq_mem, List.mem_cons, List.not_mem_nil, decide_eq_false_iff_not, not_or] at this; simpa using this.2.1
 have m48 : (cm.d == 48) = false := by have := HD.out; simp only [motB, List.contains_eq_mem, List.mem_cons, List.not_mem_nil, decide_eq_false_iff_not, not_or] at this; simpa using this.2.2.1
 have m94 : (cm.d == 94) = false := by have := HD.out; simp only [motB, List.contains_eq_mem, List.mem_cons, List.not_mem_nil, decide_eq_false_iff_not, not_or] at this; simpa using this.2.2.2.1
 have m36 : (cm.d == 36) = false := by have := HD.out; simp only [motB, List.contains_eq_mem, List.mem_cons, List.not_mem_nil, decide_eq_false_iff_not, not_or] at this; simpa using this.2.2.2.2.1
 have m124 : (cm.d == 124) = false := by have := HD.out; simp only [motB, List.contains_eq_mem, List.mem_cons, List.not_mem_nil, decide_eq_false_iff_not, not_or] at this; simpa using this.2.2.2.2.2.1
 have m119 : (cm.d == 119) = false := by have := HD.out; simp only [motB, List.contains_eq_mem, List.mem_cons, List.not_mem_nil, decide_eq_false_iff_not, not_or] at this; simpa using this.2.2.2.2.2.2.1
 have m87 : (cm.d == 87) = false := by have := HD.out; simp only [motB, List.contains_eq_mem, List.mem_cons, List.not_mem_nil, decide_eq_false_iff_not, not_or] at this; simpa using this.2.2.2.2.2.2.2.1
 have m98 : (cm.d == 98) = false := by have := HD.out; simp only [motB, List.contains_eq_mem, List.mem_cons, List.not_mem_nil, decide_eq_false_iff_not, not_or] at this; simpa using this.2.2.2.2.2.2.2.2.1
 have m66 : (cm.d == 66) = false := by have := HD.out; simp only [motB, List.contains_eq_mem, List.mem_cons, List.not_mem_nil, decide_eq_false_iff_not, not_or] at this; simpa using this.2.2.2.2.2.2.2.2.2.1
 have m101 : (cm.d == 101) = false := by have := HD.out; simp only [motB, List.contains_eq_mem, List.mem_cons, List.not_mem_nil, decide_eq_false_iff_not, not_or] at this; simpa using this.2.2.2.2.2.2.2.2.2.2.1
 have m69 : (cm.d == 69) = false := by have := HD.out; simp only [motB, List.contains_eq_mem, List.mem_cons, List.not_mem_nil, decide_eq_false_iff_not, not_or] at this; simpa using this.2.2.2.2.2.2.2.2.2.2.2.1
 have m37 : (cm.d == 37) = false := by have := HD.out; simp only [motB, List.contains_eq_mem, List.mem_cons, List.not_mem_nil, decide_eq_false_iff_not, not_or] at this; simpa using this.2.2.2.2.2.2.2.2.2.2.2.2.1
 have m102 : (cm.d == 102) = false := by have := HD.out; simp only [motB, List.contains_eq_mem, List.mem_cons, List.not_mem_nil, decide_eq_false_iff_not, not_or] at this; simpa using this.2.2.2.2.2.2.2.2.2.2.2.2.2.1
 have m70 : (cm.d == 70) = false := by have := HD.out; simp only [motB, List.contains_eq_mem, List.mem_cons, List.not_mem_nil, decide_eq_false_iff_not, not_or] at this; simpa using this.2.2.2.2.2.2.2.2.2.2.2.2.2.2.1
 have m116 : (cm.d == 116) = false := by have := HD.out; simp only [motB, List.contains_eq_mem, List.mem_cons, List.not_mem_nil, decide_eq_false_iff_not, not_or] at this; simpa using this.2.2.2.2.2.2.2.2.2.2.2.2.2.2.2.1
 have m84 : (cm.d == 84) = false := by have := HD.out; simp only [motB, List.contains_eq_mem, List.mem_cons, List.not_mem_nil, decide_eq_false_iff_not, not_or] at this; simpa using this.2.2.2.2.2.2.2.2.2.2.2.2.2.2.2.2.1
 have m59 : (cm.d == 59) = false := by have := HD.out; simp only [motB, List.contains_eq_mem, List.mem_cons, List.not_mem_nil, decide_eq_false_iff_not, not_or] at this; simpa using this.2.2.2.2.2.2.2.2.2.2.2.2.2.2.2.2.2.1
 have m44 : (cm.d == 44) = false := by have := HD.out; simp only [motB, List.contains_eq_mem, List.mem_cons, List.not_mem_nil, decide_eq_false_iff_not, not_or] at this; simpa using this.2.2.2.2.2.2.2.2.2.2.2.2.2.2.2.2.2.2.1
 have c0 := h1.c0
 have c32 : wc.cell? ⟨P, 32, none⟩ = some (.int .i64 cm.d) := h1.c32
 have c31 : wc.cell? ⟨P, 31, none⟩ = some (.int .i64 cm.d) := by rw [HE.out]; exact h1.c31
 have n0 : (cm.d == 0) = false := by have := H0.out; rw [← HE.out] at this; simpa using this
 have H1 := Lib.hid h1
 have HMV := Lib.hid (fun w2 (h2 : DI P w2 us1 I { s with cm := cm }) => doer_operate P 0 I.n true us1 I HI.out _ w2 h2 (Nat.zero_le _) (Nat.le_refl _))
 clear h1
 go_upto_region 28 with fail
 go_region
 all_goals
  go_wp2_with (go_at_call 182; go_loud (refine (HMV.out _ H1.out.drew).mono ?_; rintro e w3 ⟨rfl, hus3, hA3⟩))
  go_ret
  exact ⟨rfl, hus3, hA1.drew.trans hA3⟩
set_option maxRecDepth 100000 in
set_option maxHeartbeats 4000000 in
theorem one_bad (P : Nat) (us : List Value) (I : In) (hI : InOk I) (s : St) (w : World) (h : DI P w us I s) (cm : C5) (hcm : lgC s.cm = cm) (hd : motB cm.d = false) (h0 : cm.c ≠ 0) (he : cm.d ≠ cm.c) (hi : cm.d ≠ 105) (ha : cm.d ≠ 97) :
  Calls Try.prog 140 #[.pointer (some ⟨P, 0, none⟩)] w (DPost P I (9) ({ s with cm := cm }) w) := by
 have HI := Lib.hid hI
 have htop := hI.top; have hk1 := hI.k1
 have c29 := h.c29; have c30 := h.c30; have c31 := h.c31; have c32 := h.c32; have c33 := h.c33
 have f29 := h.free 29; have f30 := h.free 30; have f31 := h.free 31; have f32 := h.free 32; have f33 := h.free 33
 have hPw := h.lt
 have HX := Lib.hid h
 have HD := Lib.hid hd
 have H0 := Lib.hid h0
 have HE := Lib.hid he
 have HII := Lib.hid hi
 have HAA := Lib.hid ha
 obtain ⟨c, hc⟩ : ∃ c, s.cm = c := ⟨_, rfl⟩
 rw [hc] at c29 c30 c31 c32 c33 hcm
 have HC := Lib.hid hc
 have HL := Lib.hid hcm
 clear h hI hcm hc hd h0 he hi ha
 go_enter Try.func140, Try.ntmps140
 go_upto_if 13 with fail
 go_cut [2] (fun v wx => v = .int .i64 0 ∧ (∃ us', DI P wx us' I { s with cm := cm }) ∧ Asd P w wx)
 case first =>
  clear HI
  by_cases h0 : c.c = 0
  ·have z0 : (c.c == 0) = true := by simpa using h0
   have CS := fun w => edit_short c w
   have e1 := lgC_sh h0
   obtain ⟨c', hc'⟩ : ∃ c', shC c = c' := ⟨_, rfl⟩
   rw [hc'] at CS e1
   have hS : ∀ (w : World), Calls Try.prog 179 #[.agg #[.int .i64 c.a, .int .i64 c.b, .int .i64 c.c, .int .i64 c.d, .int .i64 c.e]] w (fun e w' => e = .returned (.tuple #[.agg #[.int .i64 c'.a, .int .i64 c'.b, .int .i64 c'.c, .int .i64 c'.d, .int .i64 c'.e], .bool (shK c.d).isSome]) ∧ Below w.heap.size w w') := fun w => by
    have := CS w
    unfold C5.v at this
    exact this
   have hno : shK c.d = none → c' = c := fun hn => by rw [← e1]; exact lgC_no h0 hn
   have HS := Lib.hid hS
   have HE1 := Lib.hid e1
   have HNO := Lib.hid hno
   clear CS hS e1 hc' hno h0
   rcases hk : shK c.d with _ | pq
   ·rw [hk] at HS
    have isn : (none : Option (Int × Int)).isSome = false := rfl
    have HK := Lib.hid hk
    clear hk
    go_wp2_with (go_at_call 179; refine (HS.out _).mono ?_; rintro e w8 ⟨rfl, hb8⟩; have HB8 := Lib.hid hb8; clear hb8)
    go_meet
    exact ⟨rfl, ⟨us, by have e : cm = s.cm := by { rw [← HL.out, HE1.out, HNO.out HK.out, ← HC.out] }; rw [e]; exact (HX.out.to HB8.out).alloc _⟩, (Asd.of HB8.out).trans (Asd.of (below1 _ _))⟩
   ·rw [hk] at HS
    have isn : (some pq : Option (Int × Int)).isSome = true := rfl
    clear hk
    go_wp2_with (go_at_call 179; refine (HS.out _).mono ?_; rintro e w8 ⟨rfl, hb8⟩; have hC8 := HX.out.to hb8; have g29 := hC8.c29; have g30 := hC8.c30; have g31 := hC8.c31; have g32 := hC8.c32; have g33 := hC8.c33; have k29 := hC8.free 29; have k30 := hC8.free 30; have k31 := hC8.free 31; have k32 := hC8.free 32; have k33 := hC8.free 33; have hlt8 := hC8.lt; have HC8 := Lib.hid hC8; have HB8 := Lib.hid hb8; clear hb8 hC8)
    go_meet
    exact ⟨rfl, ⟨_, by have e : cm = c' := HL.out.symm.trans HE1.out; rw [e]; exact (HC8.out.setCmd c').alloc _⟩, ((Asd.of HB8.out).trans (Asd.setCells c'.cells)).trans (Asd.of (below1 _ _))⟩
  ·have n0 : (c.c == 0) = false := by simpa using h0
   have e1 := lgC_op h0
   have HE1 := Lib.hid e1
   clear h0 e1
   go_wp2
   go_meet
   exact ⟨rfl, ⟨us, by have := HX.out; rw [← HL.out, HE1.out, ← HC.out]; exact this⟩, Asd.refl _ _⟩
 obtain ⟨rfl, ⟨us1, h1⟩, hA1⟩ := hcut
 clear c29 c30 c31 c32 c33 f29 f30 f31 f32 f33
 have m104 : (cm.d == 104) = false := by have := HD.out; simp only [motB, List.contains_eq_mem, List.mem_cons, List.not_mem_nil, decide_eq_false_iff_not, not_or] at this; simpa using this.1
 have m108 : (cm.d == 108) = false := by have := HD.out; simp only [motB, List.contains_eq_mem, List.mem_cons, List.not_mem_nil, decide_eq_false_iff_not, not_or] at this; simpa using this.2.1
 have m48 : (cm.d == 48) = false := by have := HD.out; simp only [motB, List.contains_eq_mem, List.mem_cons, List.not_mem_nil, decide_eq_false_iff_not, not_or] at this; simpa using this.2.2.1
 have m94 : (cm.d == 94) = false := by have := HD.out; simp only [motB, List.contains_eq_mem, List.mem_cons, List.not_mem_nil, decide_eq_false_iff_not, not_or] at this; simpa using this.2.2.2.1
 have m36 : (cm.d == 36) = false := by have := HD.out; simp only [motB, List.contains_eq_mem, List.mem_cons, List.not_mem_nil, decide_eq_false_iff_not, not_or] at this; simpa using this.2.2.2.2.1
 have m124 : (cm.d == 124) = false := by have := HD.out; simp only [motB, List.contains_eq_mem, List.mem_cons, List.not_mem_nil, decide_eq_false_iff_not, not_or] at this; simpa using this.2.2.2.2.2.1
 have m119 : (cm.d == 119) = false := by have := HD.out; simp only [motB, List.contains_eq_mem, List.mem_cons, List.not_mem_nil, decide_eq_false_iff_not, not_or] at this; simpa using this.2.2.2.2.2.2.1
 have m87 : (cm.d == 87) = false := by have := HD.out; simp only [motB, List.contains_eq_mem, List.mem_cons, List.not_mem_nil, decide_eq_false_iff_not, not_or] at this; simpa using this.2.2.2.2.2.2.2.1
 have m98 : (cm.d == 98) = false := by have := HD.out; simp only [motB, List.contains_eq_mem, List.mem_cons, List.not_mem_nil, decide_eq_false_iff_not, not_or] at this; simpa using this.2.2.2.2.2.2.2.2.1
 have m66 : (cm.d == 66) = false := by have := HD.out; simp only [motB, List.contains_eq_mem, List.mem_cons, List.not_mem_nil, decide_eq_false_iff_not, not_or] at this; simpa using this.2.2.2.2.2.2.2.2.2.1
 have m101 : (cm.d == 101) = false := by have := HD.out; simp only [motB, List.contains_eq_mem, List.mem_cons, List.not_mem_nil, decide_eq_false_iff_not, not_or] at this; simpa using this.2.2.2.2.2.2.2.2.2.2.1
 have m69 : (cm.d == 69) = false := by have := HD.out; simp only [motB, List.contains_eq_mem, List.mem_cons, List.not_mem_nil, decide_eq_false_iff_not, not_or] at this; simpa using this.2.2.2.2.2.2.2.2.2.2.2.1
 have m37 : (cm.d == 37) = false := by have := HD.out; simp only [motB, List.contains_eq_mem, List.mem_cons, List.not_mem_nil, decide_eq_false_iff_not, not_or] at this; simpa using this.2.2.2.2.2.2.2.2.2.2.2.2.1
 have m102 : (cm.d == 102) = false := by have := HD.out; simp only [motB, List.contains_eq_mem, List.mem_cons, List.not_mem_nil, decide_eq_false_iff_not, not_or] at this; simpa using this.2.2.2.2.2.2.2.2.2.2.2.2.2.1
 have m70 : (cm.d == 70) = false := by have := HD.out; simp only [motB, List.contains_eq_mem, List.mem_cons, List.not_mem_nil, decide_eq_false_iff_not, not_or] at this; simpa using this.2.2.2.2.2.2.2.2.2.2.2.2.2.2.1
 have m116 : (cm.d == 116) = false := by have := HD.out; simp only [motB, List.contains_eq_mem, List.mem_cons, List.not_mem_nil, decide_eq_false_iff_not, not_or] at this; simpa using this.2.2.2.2.2.2.2.2.2.2.2.2.2.2.2.1
 have m84 : (cm.d == 84) = false := by have := HD.out; simp only [motB, List.contains_eq_mem, List.mem_cons, List.not_mem_nil, decide_eq_false_iff_not, not_or] at this; simpa using this.2.2.2.2.2.2.2.2.2.2.2.2.2.2.2.2.1
 have m59 : (cm.d == 59) = false := by have := HD.out; simp only [motB, List.contains_eq_mem, List.mem_cons, List.not_mem_nil, decide_eq_false_iff_not, not_or] at this; simpa using this.2.2.2.2.2.2.2.2.2.2.2.2.2.2.2.2.2.1
 have m44 : (cm.d == 44) = false := by have := HD.out; simp only [motB, List.contains_eq_mem, List.mem_cons, List.not_mem_nil, decide_eq_false_iff_not, not_or] at this; simpa using this.2.2.2.2.2.2.2.2.2.2.2.2.2.2.2.2.2.2.1
 have c32 : wc.cell? ⟨P, 32, none⟩ = some (.int .i64 cm.d) := h1.c32
 have c31 : wc.cell? ⟨P, 31, none⟩ = some (.int .i64 cm.c) := h1.c31
 have n0 : (cm.c == 0) = false := by have := H0.out; simpa using this
 have n1 : (cm.d == cm.c) = false := by have := HE.out; simpa using this
 have n2 : (cm.d != 105) = true := by have := HII.out; simpa using this
 have n3 : (cm.d != 97) = true := by have := HAA.out; simpa using this
 have H1 := Lib.hid h1
 clear h1
 go_upto_region 28 with fail
 go_region
 all_goals
  go_wp2
  go_ret
  exact ⟨rfl, ⟨_, H1.out.drew⟩, hA1.drew⟩
set_option maxRecDepth 100000 in
set_option maxHeartbeats 4000000 in
theorem one_obj_true (P : Nat) (us : List Value) (I : In) (hI : InOk I) (s : St) (w : World) (h : DI P w us I s) (cm : C5) (hcm : lgC s.cm = cm) (hd : cm.d = 97) (h0 : cm.c ≠ 0) (he : cm.d ≠ cm.c) :
  Calls Try.prog 140 #[.pointer (some ⟨P, 0, none⟩)] w (DPost P I ((obS I { s with cm := cm } true).1) ((obS I { s with cm := cm } true).2) w) := by
 have HI := Lib.hid hI
 have htop := hI.top; have hk1 := hI.k1
 have c29 := h.c29; have c30 := h.c30; have c31 := h.c31; have c32 := h.c32; have c33 := h.c33
 have f29 := h.free 29; have f30 := h.free 30; have f31 := h.free 31; have f32 := h.free 32; have f33 := h.free 33
 have hPw := h.lt
 have HX := Lib.hid h
 have HD := Lib.hid hd
 have H0 := Lib.hid h0
 have HE := Lib.hid he
 obtain ⟨c, hc⟩ : ∃ c, s.cm = c := ⟨_, rfl⟩
 rw [hc] at c29 c30 c31 c32 c33 hcm
 have HC := Lib.hid hc
 have HL := Lib.hid hcm
 clear h hI hcm hc hd h0 he
 go_enter Try.func140, Try.ntmps140
 go_upto_if 13 with fail
 go_cut [2] (fun v wx => v = .int .i64 0 ∧ (∃ us', DI P wx us' I { s with cm := cm }) ∧ Asd P w wx)
 case first =>
  clear HI
  by_cases h0 : c.c = 0
  ·have z0 : (c.c == 0) = true := by simpa using h0
   have CS := fun w => edit_short c w
   have e1 := lgC_sh h0
   obtain ⟨c', hc'⟩ : ∃ c', shC c = c' := ⟨_, rfl⟩
   rw [hc'] at CS e1
   have hS : ∀ (w : World), Calls Try.prog 179 #[.agg #[.int .i64 c.a, .int .i64 c.b, .int .i64 c.c, .int .i64 c.d, .int .i64 c.e]] w (fun e w' => e = .returned (.tuple #[.agg #[.int .i64 c'.a, .int .i64 c'.b, .int .i64 c'.c, .int .i64 c'.d, .int .i64 c'.e], .bool (shK c.d).isSome]) ∧ Below w.heap.size w w') := fun w => by
    have := CS w
    unfold C5.v at this
    exact this
   have hno : shK c.d = none → c' = c := fun hn => by rw [← e1]; exact lgC_no h0 hn
   have HS := Lib.hid hS
   have HE1 := Lib.hid e1
   have HNO := Lib.hid hno
   clear CS hS e1 hc' hno h0
   rcases hk : shK c.d with _ | pq
   ·rw [hk] at HS
    have isn : (none : Option (Int × Int)).isSome = false := rfl
    have HK := Lib.hid hk
    clear hk
    go_wp2_with (go_at_call 179; refine (HS.out _).mono ?_; rintro e w8 ⟨rfl, hb8⟩; have HB8 := Lib.hid hb8; clear hb8)
    go_meet
    exact ⟨rfl, ⟨us, by have e : cm = s.cm := by { rw [← HL.out, HE1.out, HNO.out HK.out, ← HC.out] }; rw [e]; exact (HX.out.to HB8.out).alloc _⟩, (Asd.of HB8.out).trans (Asd.of (below1 _ _))⟩
   ·rw [hk] at HS
    have isn : (some pq : Option (Int × Int)).isSome = true := rfl
    clear hk
    go_wp2_with (go_at_call 179; refine (HS.out _).mono ?_; rintro e w8 ⟨rfl, hb8⟩; have hC8 := HX.out.to hb8; have g29 := hC8.c29; have g30 := hC8.c30; have g31 := hC8.c31; have g32 := hC8.c32; have g33 := hC8.c33; have k29 := hC8.free 29; have k30 := hC8.free 30; have k31 := hC8.free 31; have k32 := hC8.free 32; have k33 := hC8.free 33; have hlt8 := hC8.lt; have HC8 := Lib.hid hC8; have HB8 := Lib.hid hb8; clear hb8 hC8)
    go_meet
    exact ⟨rfl, ⟨_, by have e : cm = c' := HL.out.symm.trans HE1.out; rw [e]; exact (HC8.out.setCmd c').alloc _⟩, ((Asd.of HB8.out).trans (Asd.setCells c'.cells)).trans (Asd.of (below1 _ _))⟩
  ·have n0 : (c.c == 0) = false := by simpa using h0
   have e1 := lgC_op h0
   have HE1 := Lib.hid e1
   clear h0 e1
   go_wp2
   go_meet
   exact ⟨rfl, ⟨us, by have := HX.out; rw [← HL.out, HE1.out, ← HC.out]; exact this⟩, Asd.refl _ _⟩
 obtain ⟨rfl, ⟨us1, h1⟩, hA1⟩ := hcut
 clear c29 c30 c31 c32 c33 f29 f30 f31 f32 f33
 have c0 := h1.c0; have c1 := h1.c1
 have c33 : wc.cell? ⟨P, 33, none⟩ = some (.int .i64 cm.e) := h1.c33
 have c32 : wc.cell? ⟨P, 32, none⟩ = some (.int .i64 97) := by rw [← HD.out]; exact h1.c32
 have c31 : wc.cell? ⟨P, 31, none⟩ = some (.int .i64 cm.c) := h1.c31
 have n0 : (cm.c == 0) = false := by have := H0.out; simpa using this
 have n1 : (((97 : Nat) : Int) == cm.c) = false := by have := HE.out; rw [HD.out] at this; simpa using this
 have n2 : ((97 : Int) == cm.c) = false := by have := HE.out; rw [HD.out] at this; simpa using this
 have hT := h1.sl HI.out
 have hPc := h1.lt
 have OF : ∀ w2, Below wc.heap.size wc w2 → Calls Try.prog 183 #[.slice I.a I.n I.c, .int .i64 (I.k : Int), .bool true, .int .i64 cm.e] w2 (Out3 (OfP I.t (pRun I.t I.n I.n).out true I.k cm.e) w2) := fun w2 hb => object_of_in I.a I.n I.c I.t I.k true cm.e w2 (hT.below hb) HI.out.len (by omega) (by omega)
 have HOF := Lib.hid OF
 have H1 := Lib.hid h1
 clear OF hT h1
 go_upto_region 28 with fail
 go_cut [63] (fun v wx => v = .bool false ∧ wc.drew = wx)
 case first =>
  go_region
  all_goals
   go_wp2
   go_meet
   exact ⟨rfl, rfl⟩
 obtain ⟨rfl, rfl⟩ := hcut
 replace c0 : wc.drew.cell? ⟨P, 0, none⟩ = some (.slice I.a I.n I.c) := c0
 replace c1 : wc.drew.cell? ⟨P, 1, none⟩ = some (.int .i64 (I.k : Int)) := c1
 replace c32 : wc.drew.cell? ⟨P, 32, none⟩ = some (.int .i64 97) := c32
 replace c33 : wc.drew.cell? ⟨P, 33, none⟩ = some (.int .i64 cm.e) := c33
 clear c31
 go_upto_region 32 with fail
 go_cut [5, 6, 7] (fun u v e wx => ∃ fa ta er, OfP I.t (pRun I.t I.n I.n).out true I.k cm.e fa ta er ∧ u = .int .i64 fa ∧ v = .int .i64 ta ∧ e = .int .i64 er ∧ Below wc.heap.size wc wx)
 case first =>
  go_region_held3 (fun w' => w'.cell? ⟨P, 0, none⟩ = some (.slice I.a I.n I.c) ∧ w'.cell? ⟨P, 1, none⟩ = some (.int .i64 (I.k : Int)) ∧ w'.cell? ⟨P, 32, none⟩ = some (.int .i64 97) ∧ w'.cell? ⟨P, 33, none⟩ = some (.int .i64 cm.e)) (first | exact ⟨c0, c1, c32, c33⟩ | assumption | exact ⟨g0, g1, g2, g3⟩) (first | (go_at_call 183; refine (HOF.out _ ((Below.refl _ _).drew.drew)).mono ?_; rintro e w8 ⟨xa, xb, xe, rfl, hx, hb8⟩; have g0 : w8.cell? ⟨P, 0, none⟩ = some (.slice I.a I.n I.c) := (by rw [hb8.cell hPc]; exact c0); have g1 : w8.cell? ⟨P, 1, none⟩ = some (.int .i64 (I.k : Int)) := (by rw [hb8.cell hPc]; exact c1); have g2 : w8.cell? ⟨P, 32, none⟩ = some (.int .i64 97) := (by rw [hb8.cell hPc]; exact c32); have g3 : w8.cell? ⟨P, 33, none⟩ = some (.int .i64 cm.e) := (by rw [hb8.cell hPc]; exact c33)))
  all_goals
   go_wp2
   go_meet
   exact ⟨_, _, _, hx, rfl, rfl, rfl, ((Below.refl _ _).drew.drew).trans hb8⟩
 obtain ⟨fa, ta, er, ho, rfl, rfl, rfl, hb2⟩ := hcut
 have HO := Lib.hid ho
 clear ho
 have h2 := H1.out.to hb2
 have HA2 := Lib.hid (hA1.trans (Asd.of hb2))
 have H2 := Lib.hid h2
 clear h2 hb2 c0 c1 c32 c33
 by_cases hz : er = 0
 ·subst hz
  obtain ⟨b1, b2, b3⟩ := HO.out.bound HI.out.len hk1 rfl
  rw [HI.out.len] at b3
  obtain ⟨f, rfl⟩ := Int.eq_ofNat_of_zero_le b1
  obtain ⟨g, rfl⟩ := Int.eq_ofNat_of_zero_le (show 0 ≤ ta by omega)
  have HMV := Lib.hid (doer_operate P f g false us1 I HI.out _ wc H2.out (by omega) (by omega))
  clear b1 b2 b3
  go_wp2_with (go_at_call 182; go_loud (refine (HMV.out).mono ?_; rintro e w3 ⟨rfl, hus3, hA3⟩))
  go_ret
  have hob : obS I { s with cm := cm } true = opS I { s with cm := cm } f g false := by unfold obS; rw [ofR_eq HO.out, if_neg (by simp)]; rfl
  rw [hob]
  exact ⟨rfl, hus3, HA2.out.trans hA3⟩
 ·have nz : (er != 0) = true := by simpa using hz
  have HZ := Lib.hid hz
  clear hz
  go_wp2
  go_ret
  have hob : obS I { s with cm := cm } true = (er, { s with cm := cm }) := by unfold obS; rw [ofR_eq HO.out, if_pos HZ.out]
  rw [hob]
  exact ⟨rfl, ⟨_, H2.out⟩, HA2.out⟩
set_option maxRecDepth 100000 in
set_option maxHeartbeats 4000000 in
theorem one_obj_false (P : Nat) (us : List Value) (I : In) (hI : InOk I) (s : St) (w : World) (h : DI P w us I s) (cm : C5) (hcm : lgC s.cm = cm) (hd : cm.d = 105) (h0 : cm.c ≠ 0) (he : cm.d ≠ cm.c) :
  Calls Try.prog 140 #[.pointer (some ⟨P, 0, none⟩)] w (DPost P I ((obS I { s with cm := cm } false).1) ((obS I { s with cm := cm } false).2) w) := by
 have HI := Lib.hid hI
 have htop := hI.top; have hk1 := hI.k1
 have c29 := h.c29; have c30 := h.c30; have c31 := h.c31; have c32 := h.c32; have c33 := h.c33
 have f29 := h.free 29; have f30 := h.free 30; have f31 := h.free 31; have f32 := h.free 32; have f33 := h.free 33
 have hPw := h.lt
 have HX := Lib.hid h
 have HD := Lib.hid hd
 have H0 := Lib.hid h0
 have HE := Lib.hid he
 obtain ⟨c, hc⟩ : ∃ c, s.cm = c := ⟨_, rfl⟩
 rw [hc] at c29 c30 c31 c32 c33 hcm
 have HC := Lib.hid hc
 have HL := Lib.hid hcm
 clear h hI hcm hc hd h0 he
 go_enter Try.func140, Try.ntmps140
 go_upto_if 13 with fail
 go_cut [2] (fun v wx => v = .int .i64 0 ∧ (∃ us', DI P wx us' I { s with cm := cm }) ∧ Asd P w wx)
 case first =>
  clear HI
  by_cases h0 : c.c = 0
  ·have z0 : (c.c == 0) = true := by simpa using h0
   have CS := fun w => edit_short c w
   have e1 := lgC_sh h0
   obtain ⟨c', hc'⟩ : ∃ c', shC c = c' := ⟨_, rfl⟩
   rw [hc'] at CS e1
   have hS : ∀ (w : World), Calls Try.prog 179 #[.agg #[.int .i64 c.a, .int .i64 c.b, .int .i64 c.c, .int .i64 c.d, .int .i64 c.e]] w (fun e w' => e = .returned (.tuple #[.agg #[.int .i64 c'.a, .int .i64 c'.b, .int .i64 c'.c, .int .i64 c'.d, .int .i64 c'.e], .bool (shK c.d).isSome]) ∧ Below w.heap.size w w') := fun w => by
    have := CS w
    unfold C5.v at this
    exact this
   have hno : shK c.d = none → c' = c := fun hn => by rw [← e1]; exact lgC_no h0 hn
   have HS := Lib.hid hS
   have HE1 := Lib.hid e1
   have HNO := Lib.hid hno
   clear CS hS e1 hc' hno h0
   rcases hk : shK c.d with _ | pq
   ·rw [hk] at HS
    have isn : (none : Option (Int × Int)).isSome = false := rfl
    have HK := Lib.hid hk
    clear hk
    go_wp2_with (go_at_call 179; refine (HS.out _).mono ?_; rintro e w8 ⟨rfl, hb8⟩; have HB8 := Lib.hid hb8; clear hb8)
    go_meet
    exact ⟨rfl, ⟨us, by have e : cm = s.cm := by { rw [← HL.out, HE1.out, HNO.out HK.out, ← HC.out] }; rw [e]; exact (HX.out.to HB8.out).alloc _⟩, (Asd.of HB8.out).trans (Asd.of (below1 _ _))⟩
   ·rw [hk] at HS
    have isn : (some pq : Option (Int × Int)).isSome = true := rfl
    clear hk
    go_wp2_with (go_at_call 179; refine (HS.out _).mono ?_; rintro e w8 ⟨rfl, hb8⟩; have hC8 := HX.out.to hb8; have g29 := hC8.c29; have g30 := hC8.c30; have g31 := hC8.c31; have g32 := hC8.c32; have g33 := hC8.c33; have k29 := hC8.free 29; have k30 := hC8.free 30; have k31 := hC8.free 31; have k32 := hC8.free 32; have k33 := hC8.free 33; have hlt8 := hC8.lt; have HC8 := Lib.hid hC8; have HB8 := Lib.hid hb8; clear hb8 hC8)
    go_meet
    exact ⟨rfl, ⟨_, by have e : cm = c' := HL.out.symm.trans HE1.out; rw [e]; exact (HC8.out.setCmd c').alloc _⟩, ((Asd.of HB8.out).trans (Asd.setCells c'.cells)).trans (Asd.of (below1 _ _))⟩
  ·have n0 : (c.c == 0) = false := by simpa using h0
   have e1 := lgC_op h0
   have HE1 := Lib.hid e1
   clear h0 e1
   go_wp2
   go_meet
   exact ⟨rfl, ⟨us, by have := HX.out; rw [← HL.out, HE1.out, ← HC.out]; exact this⟩, Asd.refl _ _⟩
 obtain ⟨rfl, ⟨us1, h1⟩, hA1⟩ := hcut
 clear c29 c30 c31 c32 c33 f29 f30 f31 f32 f33
 have c0 := h1.c0; have c1 := h1.c1
 have c33 : wc.cell? ⟨P, 33, none⟩ = some (.int .i64 cm.e) := h1.c33
 have c32 : wc.cell? ⟨P, 32, none⟩ = some (.int .i64 105) := by rw [← HD.out]; exact h1.c32
 have c31 : wc.cell? ⟨P, 31, none⟩ = some (.int .i64 cm.c) := h1.c31
 have n0 : (cm.c == 0) = false := by have := H0.out; simpa using this
 have n1 : (((105 : Nat) : Int) == cm.c) = false := by have := HE.out; rw [HD.out] at this; simpa using this
 have n2 : ((105 : Int) == cm.c) = false := by have := HE.out; rw [HD.out] at this; simpa using this
 have hT := h1.sl HI.out
 have hPc := h1.lt
 have OF : ∀ w2, Below wc.heap.size wc w2 → Calls Try.prog 183 #[.slice I.a I.n I.c, .int .i64 (I.k : Int), .bool false, .int .i64 cm.e] w2 (Out3 (OfP I.t (pRun I.t I.n I.n).out false I.k cm.e) w2) := fun w2 hb => object_of_in I.a I.n I.c I.t I.k false cm.e w2 (hT.below hb) HI.out.len (by omega) (by omega)
 have HOF := Lib.hid OF
 have H1 := Lib.hid h1
 clear OF hT h1
 go_upto_region 28 with fail
 go_cut [63] (fun v wx => v = .bool false ∧ wc.drew = wx)
 case first =>
  go_region
  all_goals
   go_wp2
   go_meet
   exact ⟨rfl, rfl⟩
 obtain ⟨rfl, rfl⟩ := hcut
 replace c0 : wc.drew.cell? ⟨P, 0, none⟩ = some (.slice I.a I.n I.c) := c0
 replace c1 : wc.drew.cell? ⟨P, 1, none⟩ = some (.int .i64 (I.k : Int)) := c1
 replace c32 : wc.drew.cell? ⟨P, 32, none⟩ = some (.int .i64 105) := c32
 replace c33 : wc.drew.cell? ⟨P, 33, none⟩ = some (.int .i64 cm.e) := c33
 clear c31
 go_upto_region 32 with fail
 go_cut [5, 6, 7] (fun u v e wx => ∃ fa ta er, OfP I.t (pRun I.t I.n I.n).out false I.k cm.e fa ta er ∧ u = .int .i64 fa ∧ v = .int .i64 ta ∧ e = .int .i64 er ∧ Below wc.heap.size wc wx)
 case first =>
  go_region_held3 (fun w' => w'.cell? ⟨P, 0, none⟩ = some (.slice I.a I.n I.c) ∧ w'.cell? ⟨P, 1, none⟩ = some (.int .i64 (I.k : Int)) ∧ w'.cell? ⟨P, 32, none⟩ = some (.int .i64 105) ∧ w'.cell? ⟨P, 33, none⟩ = some (.int .i64 cm.e)) (first | exact ⟨c0, c1, c32, c33⟩ | assumption | exact ⟨g0, g1, g2, g3⟩) (first | (go_at_call 183; refine (HOF.out _ ((Below.refl _ _).drew.drew)).mono ?_; rintro e w8 ⟨xa, xb, xe, rfl, hx, hb8⟩; have g0 : w8.cell? ⟨P, 0, none⟩ = some (.slice I.a I.n I.c) := (by rw [hb8.cell hPc]; exact c0); have g1 : w8.cell? ⟨P, 1, none⟩ = some (.int .i64 (I.k : Int)) := (by rw [hb8.cell hPc]; exact c1); have g2 : w8.cell? ⟨P, 32, none⟩ = some (.int .i64 105) := (by rw [hb8.cell hPc]; exact c32); have g3 : w8.cell? ⟨P, 33, none⟩ = some (.int .i64 cm.e) := (by rw [hb8.cell hPc]; exact c33)))
  all_goals
   go_wp2
   go_meet
   exact ⟨_, _, _, hx, rfl, rfl, rfl, ((Below.refl _ _).drew.drew).trans hb8⟩
 obtain ⟨fa, ta, er, ho, rfl, rfl, rfl, hb2⟩ := hcut
 have HO := Lib.hid ho
 clear ho
 have h2 := H1.out.to hb2
 have HA2 := Lib.hid (hA1.trans (Asd.of hb2))
 have H2 := Lib.hid h2
 clear h2 hb2 c0 c1 c32 c33
 by_cases hz : er = 0
 ·subst hz
  obtain ⟨b1, b2, b3⟩ := HO.out.bound HI.out.len hk1 rfl
  rw [HI.out.len] at b3
  obtain ⟨f, rfl⟩ := Int.eq_ofNat_of_zero_le b1
  obtain ⟨g, rfl⟩ := Int.eq_ofNat_of_zero_le (show 0 ≤ ta by omega)
  have HMV := Lib.hid (doer_operate P f g false us1 I HI.out _ wc H2.out (by omega) (by omega))
  clear b1 b2 b3
  go_wp2_with (go_at_call 182; go_loud (refine (HMV.out).mono ?_; rintro e w3 ⟨rfl, hus3, hA3⟩))
  go_ret
  have hob : obS I { s with cm := cm } false = opS I { s with cm := cm } f g false := by unfold obS; rw [ofR_eq HO.out, if_neg (by simp)]; rfl
  rw [hob]
  exact ⟨rfl, hus3, HA2.out.trans hA3⟩
 ·have nz : (er != 0) = true := by simpa using hz
  have HZ := Lib.hid hz
  clear hz
  go_wp2
  go_ret
  have hob : obS I { s with cm := cm } false = (er, { s with cm := cm }) := by unfold obS; rw [ofR_eq HO.out, if_pos HZ.out]
  rw [hob]
  exact ⟨rfl, ⟨_, H2.out⟩, HA2.out⟩
theorem doer_one (P : Nat) (us : List Value) (I : In) (hI : InOk I) (s : St) (w : World) (h : DI P w us I s) (hc0 : 0 ≤ s.cm.a) (hc1 : s.cm.a ≤ 999) (hf : s.fk = 0 ∨ fiB s.fk = true) :
  Calls Try.prog 140 #[.pointer (some ⟨P, 0, none⟩)] w (DPost P I (doS I { s with cm := lgC s.cm }).1 (doS I { s with cm := lgC s.cm }).2 w) := by
 have ha : (lgC s.cm).a = s.cm.a := by
  unfold lgC shC
  split
  ·rfl
  ·split <;> rfl
 obtain ⟨cm, hcm⟩ : ∃ cm, lgC s.cm = cm := ⟨_, rfl⟩
 rw [hcm] at ha ⊢
 cases hm : motB cm.d
 ·have hne : ¬ (motB cm.d = true) := by simp [hm]
  by_cases h0 : cm.c = 0
  ·rw [doS]; dsimp only; rw [if_neg hne, if_pos h0]
   exact one_plain P us I hI s w h cm hcm hm h0 (by rw [ha]; exact hc0) (by rw [ha]; exact hc1)
  ·by_cases he : cm.d = cm.c
   ·rw [doS]; dsimp only; rw [if_neg hne, if_neg h0, if_pos he]
    exact one_all P us I hI s w h cm hcm hm h0 he
   ·by_cases hia : cm.d ≠ 105 ∧ cm.d ≠ 97
    ·rw [doS]; dsimp only; rw [if_neg hne, if_neg h0, if_neg he, if_pos hia]
     exact one_bad P us I hI s w h cm hcm hm h0 he hia.1 hia.2
    ·rw [doS]; dsimp only; rw [if_neg hne, if_neg h0, if_neg he, if_neg hia]
     by_cases h97 : cm.d = 97
     ·have hb : decide (cm.d = 97) = true := by simpa using h97
      rw [hb]
      exact one_obj_true P us I hI s w h cm hcm h97 h0 he
     ·have hb : decide (cm.d = 97) = false := by simpa using h97
      have h105 : cm.d = 105 := by omega
      rw [hb]
      exact one_obj_false P us I hI s w h cm hcm h105 h0 he
 ·rw [doS]; dsimp only; rw [if_pos hm]
  exact one_mot P us I hI s w h cm hcm hm hf
end Go.Proofs.Ytmipnikhgihcpaa
