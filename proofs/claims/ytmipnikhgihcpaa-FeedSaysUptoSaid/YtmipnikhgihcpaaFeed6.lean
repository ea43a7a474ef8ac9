/- Contracts of fairref.Begins and fairref.Decode. -/
import Derived.Test.YtmipnikhgihcpaaFeed5
import Derived.Deep.RegionLaw
namespace Go.Proofs.Ytmipnikhgihcpaa
open Go.RowKit
set_option linter.unusedVariables false
set_option linter.unusedSimpArgs false

def candL : List ByteArray := [⟨#[128]⟩, ⟨#[191]⟩, ⟨#[128, 128]⟩, ⟨#[191, 191]⟩, ⟨#[128, 128, 128]⟩, ⟨#[191, 191, 191]⟩, ⟨#[191, 128]⟩, ⟨#[191, 128, 128]⟩, ⟨#[144, 128, 128]⟩, ⟨#[159, 128]⟩, ⟨#[143, 128, 128]⟩]
def cnd (k : Nat) : ByteArray := candL.getD k ⟨#[]⟩
theorem cnd_size (k : Nat) : (cnd k).size ≤ 3 := by
  unfold cnd candL
  match k with
  | 0 | 1 | 2 | 3 | 4 | 5 | 6 | 7 | 8 | 9 | 10 => decide
  | k + 11 => show (⟨#[]⟩ : ByteArray).size ≤ 3; decide
def candB (s : ByteArray) (k : Nat) : Bool := decide ((gS (s ++ cnd k)).e = 0 ∧ (gS (s ++ cnd k)).n = ((s.size + (cnd k).size : Nat) : Int))
def begV (s : ByteArray) : Bool := decide (0 < s.size ∧ s.size ≤ 3) && (List.range 11).any fun k => candB s k
theorem beg_out {s : ByteArray} (h : s.size = 0 ∨ 3 < s.size) : begV s = false := by
  unfold begV; rw [decide_eq_false (by omega)]; rfl
theorem beg_yes {s : ByteArray} {k : Nat} (h0 : 0 < s.size) (h3 : s.size ≤ 3) (hk : k < 11) (h : candB s k = true) : begV s = true := by
  unfold begV
  rw [decide_eq_true ⟨h0, h3⟩, Bool.true_and, List.any_eq_true]
  exact ⟨k, List.mem_range.2 hk, h⟩
theorem beg_no {s : ByteArray} (h : ∀ k, k < 11 → candB s k = false) : begV s = false := by
  unfold begV
  rw [Bool.and_eq_false_iff]
  right
  rw [List.any_eq_false]
  intro k hk
  rw [h k (List.mem_range.1 hk)]; simp

set_option maxRecDepth 100000 in
set_option maxHeartbeats 4000000 in
theorem ref_begins (s : ByteArray) (w : World) : Calls Try.prog 23 #[.string s] w fun e w' => e = .returned (.bool (begV s)) ∧ Below w.heap.size w w' := by
  have hE := isE s
  by_cases h0 : s.size = 0
  · have HB := Lib.hid (beg_out (s := s) (.inl h0))
    have hE2 : s.toList.isEmpty = true := by rw [hE]; simpa using h0
    clear hE h0
    go_enter Try.func23, Try.ntmps23
    go_wp2
    go_ret
    exact ⟨ret1_bool (by rw [HB.out]), Below.refl _ _⟩
  by_cases h3 : 3 < s.size
  · have HB := Lib.hid (beg_out (s := s) (.inr h3))
    have hE2 : s.toList.isEmpty = false := by rw [hE]; simpa using h0
    have i1 : (3 : Int) < (s.size : Int) := by omega
    clear hE h0
    go_enter Try.func23, Try.ntmps23
    go_wp2
    go_ret
    exact ⟨ret1_bool (by rw [HB.out]), Below.refl _ _⟩
  have hE2 : s.toList.isEmpty = false := by rw [hE]; simpa using h0
  have i1 : ¬ (3 : Int) < (s.size : Int) := by omega
  have HS := Lib.hid (show 0 < s.size ∧ s.size ≤ 3 by omega)
  have hb0 := below1 w (.cells (candL.map Value.string).toArray 9)
  have HBK := Lib.hid (show ∀ k, k < 11 → (w.alloc (.cells (candL.map Value.string).toArray 9)).cell? ⟨w.heap.size, k, none⟩ = some (.string (cnd k)) from fun k hk => by
    rw [(Blk.new w (candL.map Value.string).toArray 9).cell k]
    have hl : k < candL.length := hk
    simp [cnd, List.getD, hl])
  simp only [candL, List.map_cons, List.map_nil] at hb0 HBK
  clear hE h0 h3
  go_enter Try.func23, Try.ntmps23
  go_upto_region 4 with fail
  generalize (w.alloc (.cells #[.string ⟨#[128]⟩, .string ⟨#[191]⟩, .string ⟨#[128, 128]⟩, .string ⟨#[191, 191]⟩, .string ⟨#[128, 128, 128]⟩, .string ⟨#[191, 191, 191]⟩, .string ⟨#[191, 128]⟩, .string ⟨#[191, 128, 128]⟩, .string ⟨#[144, 128, 128]⟩, .string ⟨#[159, 128]⟩, .string ⟨#[143, 128, 128]⟩] 9)) = w1 at *
  go_loopw [17] (fun i wr => ∃ k : Nat, i = .int .i64 (k : Int) ∧ k ≤ 11 ∧ (∀ j, j < k → candB s j = false) ∧ Below w1.heap.size w1 wr) (fun i _ => 11 - (intOf i).toNat)
  case atStart => exact ⟨0, rfl, by omega, fun j hj => by omega, Below.refl _ _⟩
  case round =>
    obtain ⟨k, rfl, hk, hno, hb⟩ := hrel
    have HNO := Lib.hid hno
    clear hno
    by_cases hlt : k < 11
    · have i2 : (k : Int) < 11 := by omega
      have ck := below_keeps hb _ _ (HBK.out k hlt)
      have hcs := cnd_size k
      have HC := Lib.hid (show candB s k = decide ((gS (s ++ cnd k)).e = 0 ∧ (gS (s ++ cnd k)).n = ((s.size + (cnd k).size : Nat) : Int)) from rfl)
      have HG := Lib.hid (ref_get (s ++ cnd k))
      have hss : s.size ≤ 3 := HS.out.2
      generalize gS (s ++ cnd k) = g at *
      generalize cnd k = cb at *
      obtain ⟨gc, gn, ge⟩ := g
      simp only at HC
      by_cases hge : ge = 0
      · subst hge
        by_cases hgn : gn = ((s.size + cb.size : Nat) : Int)
        · have HCT := Lib.hid (show candB s k = true by rw [HC.out]; simp [hgn])
          have e2 : (gn == (s.size : Int) + (cb.size : Int)) = true := by rw [beq_iff_eq, hgn]; omega
          clear hgn
          go_wp2_with fail
          refine (HG.out _).mono ?_
          rintro e w3 ⟨rfl, hb3⟩
          go_wp2
          go_ret
          exact ⟨ret1_bool (by rw [beg_yes HS.out.1 HS.out.2 hlt HCT.out]), below_then hb0 hb0.size (below_then hb hb.size hb3)⟩
        · have HCT := Lib.hid (show candB s k = false by rw [HC.out]; simp only [decide_eq_false_iff_not, true_and]; exact hgn)
          have e2 : (gn == (s.size : Int) + (cb.size : Int)) = false := by rw [beq_eq_false_iff_ne]; intro h; exact hgn (by omega)
          clear hgn
          go_wp2_with fail
          refine (HG.out _).mono ?_
          rintro e w3 ⟨rfl, hb3⟩
          go_wp2
          go_roundw
          case rel =>
            refine ⟨k + 1, by go_num, by omega, fun j hj => ?_, below_then hb hb.size hb3⟩
            rcases Nat.lt_succ_iff_lt_or_eq.1 hj with h | rfl
            · exact HNO.out j h
            · exact HCT.out
          case measure => simp [intOf]; omega
      · have HCT := Lib.hid (show candB s k = false by rw [HC.out]; simp [hge])
        have e1 : (ge == 0) = false := by rw [beq_eq_false_iff_ne]; exact hge
        clear hge
        go_wp2_with fail
        refine (HG.out _).mono ?_
        rintro e w3 ⟨rfl, hb3⟩
        go_wp2
        go_roundw
        case rel =>
          refine ⟨k + 1, by go_num, by omega, fun j hj => ?_, below_then hb hb.size hb3⟩
          rcases Nat.lt_succ_iff_lt_or_eq.1 hj with h | rfl
          · exact HNO.out j h
          · exact HCT.out
        case measure => simp [intOf]; omega
    · obtain rfl : k = 11 := by omega
      have HB := Lib.hid (beg_no (s := s) HNO.out)
      go_wp2
      go_ret
      exact ⟨ret1_bool (by rw [HB.out]), below_then hb0 hb0.size hb⟩

/-- how much is passed over -/
def skpA (s : ByteArray) : Nat := if 2 < s.size ∧ begV (s.extract 0 2) = true then 2 else 1
def skp (s : ByteArray) : Nat := if 3 < s.size ∧ begV (s.extract 0 3) = true then 3 else skpA s
structure DS where
  q : ByteArray
  l : List Int
def decF : Nat → ByteArray → List Int → DS
  | 0, _, out => ⟨⟨#[]⟩, out⟩
  | f + 1, s, out => if s.size = 0 then ⟨⟨#[]⟩, out⟩ else if (gS s).e = 0 then decF f (cutS s (gS s).n.toNat) (out ++ [(gS s).c])
      else if begV s = true then ⟨s, out⟩ else decF f (cutS s (skp s)) (out ++ [65533])
def decS (s : ByteArray) : DS := decF s.size s []
theorem skp_bd (s : ByteArray) : 1 ≤ skp s ∧ (0 < s.size → skp s ≤ s.size) := by
  unfold skp skpA; split
  · omega
  · split <;> omega
def strLen (v : Value) : Nat := match v with | .string s => s.size | _ => 0
theorem strLen_s (s : ByteArray) : strLen (.string s) = s.size := rfl
def DecPost (d : DS) (w : World) (e : Ending) (w' : World) : Prop := ∃ v, e = .returned (.tuple #[.string d.q, v]) ∧ Own 3 w.heap.size w' v d.l ∧ Below w.heap.size w w'
set_option maxRecDepth 100000 in
set_option maxHeartbeats 8000000 in
theorem ref_decode (s0 : ByteArray) (w : World) (hs : s0.size ≤ 2097152) : Calls Try.prog 27 #[.string s0] w (DecPost (decS s0) w) := by
  go_enter Try.func27, Try.ntmps27
  go_upto_region 2 with fail
  go_loopw [0, 4] (fun sv v wr => ∃ (s : ByteArray) (f : Nat) (out : List Int), sv = .string s ∧ s.size ≤ f ∧ out.length + s.size ≤ s0.size ∧ decF f s out = decS s0 ∧ Own 3 w.heap.size wr v out ∧ Below w.heap.size w wr) (fun sv _ _ => strLen sv)
  case atStart => exact ⟨s0, s0.size, [], rfl, by omega, by simp, rfl, Own.nil _ _ _, Below.refl _ _⟩
  case round =>
    obtain ⟨s, f, out, rfl, hf, hlo, hdec, hown, hb⟩ := hrel
    have hE := isE s
    have hz := hb.size
    by_cases h0 : s.size = 0
    · have HD := Lib.hid (show decS s0 = ⟨⟨#[]⟩, out⟩ by
        rw [← hdec]; cases f with
        | zero => rfl
        | succ f => rw [decF, if_pos h0])
      have hE2 : s.toList.isEmpty = true := by rw [hE]; simpa using h0
      clear hE h0
      go_wp2
      go_ret2
      rw [HD.out]
      exact ⟨_, rfl, hown, hb⟩
    · obtain ⟨f, rfl⟩ : ∃ f', f = f' + 1 := ⟨f - 1, by omega⟩
      have hE2 : s.toList.isEmpty = false := by rw [hE]; simpa using h0
      rw [decF, if_neg h0] at hdec
      have HG := Lib.hid (ref_get s)
      have hgn := gS_n (s := s)
      clear hE
      by_cases he : (gS s).e = 0
      · obtain ⟨n1, n2, n3⟩ := hgn he
        rw [if_pos he] at hdec
        have HDEC := Lib.hid hdec
        clear hgn hdec
        generalize gS s = g at *
        obtain ⟨gc, gn, ge⟩ := g
        simp only at he n1 n2 n3 HDEC
        subst he
        obtain ⟨m, rfl⟩ := Int.eq_ofNat_of_zero_le (show 0 ≤ gn by omega)
        simp only [Int.toNat_natCast] at HDEC
        go_wp2_with fail
        refine (HG.out _).mono ?_
        rintro e w3 ⟨rfl, hb3⟩
        have hown := hown.kept hb3
        have hb := below_then hb hb.size hb3
        have hz := hb.size
        go_upto_region 5 with fail
        have hbA := (hb.drew).alloc hz (.cells #[.int .i64 gc] 3)
        go_region_law (refine step_app1 (by rfl) _ _ rfl w.heap.size _ out (gc) _ rfl rfl ((hown.drew).alloc _) (cell_newAt w3.drew (.int .i64 (gc)) 3 rfl) (by omega) (size_alloc_le (show w.heap.size ≤ w3.drew.heap.size from hz) _) ?_; intro v9 w9 o9 hgrow9)
        all_goals
          have hb9 := hbA.grown hgrow9 (size_alloc_le hz _) hown.row
          go_simp
          go_wp2
          go_roundw
          case rel => exact ⟨cutS s m, f, out ++ [gc], rfl, by rw [cut_size]; omega, by rw [cut_size]; simp; omega, HDEC.out, o9, hb9⟩
          case measure => show strLen (.string (cutS s m)) < strLen (.string s); rw [strLen_s, strLen_s, cut_size]; omega
      · rw [if_neg he] at hdec
        have HDEC := Lib.hid hdec
        have HB := Lib.hid (ref_begins s)
        have HE0 := Lib.hid he
        clear hgn hdec
        generalize gS s = g at *
        obtain ⟨gc, gn, ge⟩ := g
        have e1 : (ge == 0) = false := by rw [beq_eq_false_iff_ne]; exact he
        obtain ⟨z, hz0⟩ : ∃ z, begV s = z := ⟨_, rfl⟩
        rw [hz0] at HB HDEC
        clear hz0 he
        rcases z with _ | _
        · go_wp2_with fail
          refine (HG.out _).mono ?_
          rintro e w3 ⟨rfl, hb3⟩
          have hown := hown.kept hb3
          have hb := below_then hb hb.size hb3
          go_wp2_with fail
          refine (HB.out _).mono ?_
          rintro e w4 ⟨rfl, hb4⟩
          have hown := hown.kept hb4
          have hb := below_then hb hb.size hb4
          have HR2 := Lib.hid (ref_begins (s.extract 0 2))
          have HR3 := Lib.hid (ref_begins (s.extract 0 3))
          have HS2 := Lib.hid (show skpA s = if 2 < s.size ∧ begV (s.extract 0 2) = true then 2 else 1 from rfl)
          have HS3 := Lib.hid (show skp s = if 3 < s.size ∧ begV (s.extract 0 3) = true then 3 else skpA s from rfl)
          obtain ⟨z2, hz2⟩ : ∃ z, begV (s.extract 0 2) = z := ⟨_, rfl⟩
          obtain ⟨z3, hz3⟩ : ∃ z, begV (s.extract 0 3) = z := ⟨_, rfl⟩
          rw [hz2] at HR2 HS2
          rw [hz3] at HR3 HS3
          have hsk := skp_bd s
          have HOWN := Lib.hid hown
          have HBB := Lib.hid hb
          clear hz2 hz3 hb3 hb4 hown hb
          generalize skp s = sk at *
          generalize skpA s = sa at *
          go_upto_region 10 with fail
          go_loopw [8, 9] (fun nv kv wr => ∃ n k : Nat, nv = .int .i64 (n : Int) ∧ kv = .int .i64 (k : Int) ∧ ((k = 2 ∧ n = 1) ∨ (k = 3 ∧ 2 < s.size ∧ n = sa) ∨ (k = 4 ∧ 3 < s.size ∧ n = sk)) ∧ Below w4.heap.size w4 wr) (fun _ kv _ => 4 - (intOf kv).toNat)
          case atStart => exact ⟨1, 2, rfl, rfl, .inl ⟨rfl, rfl⟩, Below.refl _ _⟩
          case round =>
            obtain ⟨n, k, rfl, rfl, hnk, hb5⟩ := hrel
            rcases hnk with ⟨rfl, rfl⟩ | ⟨rfl, h2, hn⟩ | ⟨rfl, h3, hn⟩
            · by_cases h2 : 2 < s.size
              · have i2 : (2 : Int) < (s.size : Int) := by omega
                have HS2' := Lib.hid (show 2 < s.size from h2)
                rcases z2 with _ | _
                · go_wp2_with fail
                  refine (HR2.out _).mono ?_
                  rintro e w6 ⟨rfl, hb6⟩
                  go_wp2
                  go_roundw
                  case rel => exact ⟨1, 3, rfl, rfl, .inr (.inl ⟨rfl, h2, by rw [HS2.out, if_neg (by simp)]⟩), below_then hb5 hb5.size hb6⟩
                  case measure => simp [intOf]
                · go_wp2_with fail
                  refine (HR2.out _).mono ?_
                  rintro e w6 ⟨rfl, hb6⟩
                  go_wp2
                  go_roundw
                  case rel => exact ⟨2, 3, rfl, rfl, .inr (.inl ⟨rfl, h2, by rw [HS2.out, if_pos ⟨h2, by trivial⟩]⟩), below_then hb5 hb5.size hb6⟩
                  case measure => simp [intOf]
              · have i2 : ¬ (2 : Int) < (s.size : Int) := by omega
                have HNK := Lib.hid (show 1 = sk by rw [HS3.out, if_neg (by omega), HS2.out, if_neg (by omega)])
                have hown := HOWN.out.kept hb5
                have hb := below_then HBB.out HBB.out.size hb5
                have hz := hb.size
                have HD2 := Lib.hid (show decF f (cutS s 1) (out ++ [65533]) = decS s0 by have := HDEC.out; simp only [Bool.false_eq_true, if_false] at this; rw [HNK.out]; exact this)
                have hn1 := hsk.1; have hn2 := hsk.2 (by omega)
                rw [← HNK.out] at hn1 hn2
                have i9 : (1 : Int) ≤ (s.size : Int) := by omega
                have hbA := (hb.drew).alloc hz (.cells #[.int .i64 65533] 3)
                clear hsk
                go_upto_region 14 with fail
                go_region_law (refine step_app1 (by rfl) _ _ rfl w.heap.size _ out 65533 _ rfl rfl ((hown.drew).alloc _) (cell_newAt wr.drew (.int .i64 65533) 3 rfl) (by omega) (size_alloc_le (show w.heap.size ≤ wr.drew.heap.size from hz) _) ?_; intro v9 w9 o9 hgrow9)
                all_goals
                  have hb9 := hbA.grown hgrow9 (size_alloc_le hz _) hown.row
                  go_simp
                  go_wp2
                  go_roundw
                  case rel => exact ⟨cutS s 1, f, out ++ [65533], rfl, by rw [cut_size]; omega, by rw [cut_size]; simp; omega, HD2.out, o9, hb9⟩
                  case measure => show strLen (.string (cutS s 1)) < strLen (.string s); rw [strLen_s, strLen_s, cut_size]; omega
            · have HNA := Lib.hid hn
              clear hn
              by_cases h3 : 3 < s.size
              · have i3 : (3 : Int) < (s.size : Int) := by omega
                rcases z3 with _ | _
                · go_wp2_with fail
                  refine (HR3.out _).mono ?_
                  rintro e w6 ⟨rfl, hb6⟩
                  go_wp2
                  go_roundw
                  case rel => exact ⟨n, 4, rfl, rfl, .inr (.inr ⟨rfl, h3, by rw [HS3.out, if_neg (by simp)]; exact HNA.out⟩), below_then hb5 hb5.size hb6⟩
                  case measure => simp [intOf]
                · go_wp2_with fail
                  refine (HR3.out _).mono ?_
                  rintro e w6 ⟨rfl, hb6⟩
                  go_wp2
                  go_roundw
                  case rel => exact ⟨3, 4, rfl, rfl, .inr (.inr ⟨rfl, h3, by rw [HS3.out, if_pos ⟨h3, by trivial⟩]⟩), below_then hb5 hb5.size hb6⟩
                  case measure => simp [intOf]
              · have i3 : ¬ (3 : Int) < (s.size : Int) := by omega
                have HNK := Lib.hid (show n = sk by rw [HS3.out, if_neg (by omega)]; exact HNA.out)
                have hown := HOWN.out.kept hb5
                have hb := below_then HBB.out HBB.out.size hb5
                have hz := hb.size
                have HD2 := Lib.hid (show decF f (cutS s n) (out ++ [65533]) = decS s0 by have := HDEC.out; simp only [Bool.false_eq_true, if_false] at this; rw [HNK.out]; exact this)
                have hn1 := hsk.1; have hn2 := hsk.2 (by omega)
                rw [← HNK.out] at hn1 hn2
                have hbA := (hb.drew).alloc hz (.cells #[.int .i64 65533] 3)
                clear hsk
                go_upto_region 14 with fail
                go_region_law (refine step_app1 (by rfl) _ _ rfl w.heap.size _ out 65533 _ rfl rfl ((hown.drew).alloc _) (cell_newAt wr.drew (.int .i64 65533) 3 rfl) (by omega) (size_alloc_le (show w.heap.size ≤ wr.drew.heap.size from hz) _) ?_; intro v9 w9 o9 hgrow9)
                all_goals
                  have hb9 := hbA.grown hgrow9 (size_alloc_le hz _) hown.row
                  go_simp
                  go_wp2
                  go_roundw
                  case rel => exact ⟨cutS s n, f, out ++ [65533], rfl, by rw [cut_size]; omega, by rw [cut_size]; simp; omega, HD2.out, o9, hb9⟩
                  case measure => show strLen (.string (cutS s n)) < strLen (.string s); rw [strLen_s, strLen_s, cut_size]; omega
            · have HNK := Lib.hid hn
              clear hn
              have hown := HOWN.out.kept hb5
              have hb := below_then HBB.out HBB.out.size hb5
              have hz := hb.size
              have HD2 := Lib.hid (show decF f (cutS s n) (out ++ [65533]) = decS s0 by have := HDEC.out; simp only [Bool.false_eq_true, if_false] at this; rw [HNK.out]; exact this)
              have hn1 := hsk.1; have hn2 := hsk.2 (by omega)
              rw [← HNK.out] at hn1 hn2
              have hbA := (hb.drew).alloc hz (.cells #[.int .i64 65533] 3)
              clear hsk
              go_upto_region 14 with fail
              go_region_law (refine step_app1 (by rfl) _ _ rfl w.heap.size _ out 65533 _ rfl rfl ((hown.drew).alloc _) (cell_newAt wr.drew (.int .i64 65533) 3 rfl) (by omega) (size_alloc_le (show w.heap.size ≤ wr.drew.heap.size from hz) _) ?_; intro v9 w9 o9 hgrow9)
              all_goals
                have hb9 := hbA.grown hgrow9 (size_alloc_le hz _) hown.row
                go_simp
                go_wp2
                go_roundw
                case rel => exact ⟨cutS s n, f, out ++ [65533], rfl, by rw [cut_size]; omega, by rw [cut_size]; simp; omega, HD2.out, o9, hb9⟩
                case measure => show strLen (.string (cutS s n)) < strLen (.string s); rw [strLen_s, strLen_s, cut_size]; omega
        · go_wp2_with fail
          refine (HG.out _).mono ?_
          rintro e w3 ⟨rfl, hb3⟩
          have hown := hown.kept hb3
          have hb := below_then hb hb.size hb3
          go_wp2_with fail
          refine (HB.out _).mono ?_
          rintro e w4 ⟨rfl, hb4⟩
          go_wp2
          go_ret2
          have := HDEC.out
          simp only [if_true] at this
          rw [← this]
          exact ⟨_, rfl, hown.kept hb4, below_then hb hb.size hb4⟩

end Go.Proofs.Ytmipnikhgihcpaa
