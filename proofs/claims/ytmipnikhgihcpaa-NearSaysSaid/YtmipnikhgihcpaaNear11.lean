/- Contract of fairref.Nears. -/
import Derived.Test.YtmipnikhgihcpaaNear10
namespace Go.Proofs.Ytmipnikhgihcpaa
open Go.RowKit
set_option linter.unusedVariables false
set_option linter.unusedSimpArgs false

def nearsU (D : Nat → Nat) (len : Nat) : Nat → List N2
  | 0 => []
  | d + 1 => nearsL D len d
theorem nearsU_next (D : Nat → Nat) (len d : Nat) : nearsL D len d = nearsU D len d ++ blockL D len d := by cases d <;> rfl
theorem blockL_zero (D : Nat → Nat) (d : Nat) : blockL D 0 d = [] := rfl
theorem blockL_yes {D : Nat → Nat} {i d : Nat} (h : D i = d) : blockL D (i + 1) d = blockL D i d ++ [⟨(i : Int), (d : Int)⟩] := by
  unfold blockL
  rw [List.range_succ, List.filter_append, List.map_append, List.filter_cons_of_pos (by simpa using h)]; rfl
theorem blockL_no {D : Nat → Nat} {i d : Nat} (h : D i ≠ d) : blockL D (i + 1) d = blockL D i d := by
  unfold blockL
  rw [List.range_succ, List.filter_append, List.map_append, List.filter_cons_of_neg (by simpa using h)]; simp
theorem nearsU_len (D : Nat → Nat) (len d i : Nat) (hi : i ≤ len) : (nearsU D len d ++ blockL D i d).length ≤ 2 * len := by
  rw [List.length_append]
  have h1 : (nearsU D len d).length ≤ len := by
    cases d with
    | zero => exact Nat.zero_le _
    | succ d => exact nearsL_len D len d
  have := blockL_len D i d
  omega
def NearsPost (l : List N2) (w : World) (e : Ending) (w' : World) : Prop := ∃ v, e = .returned v ∧ NOwn w.heap.size w' v l ∧ Below w.heap.size w w'

set_option maxRecDepth 100000 in
set_option maxHeartbeats 2000000 in
theorem ref_nears (lv : Value) (vs : List Value) (X : List (List Int)) (wd : List Int) (a : Option Addr) (m c : Nat) (D : Nat → Nat) (hD : ∀ i, i < X.length → D i = dst (rx X i) wd) (w : World) (hV : Vs w lv vs) (hL : Lists w vs X) (h100 : X.length ≤ 100) (h24 : ∀ i, i < X.length → (rx X i).length ≤ 24) (hT : Ints w a wd) (hm : wd.length = m) (hm2 : m ≤ 24) (most : Nat) (hmost : most ≤ 200) :
    Calls Try.prog 70 #[lv, .slice a m c, .int .i64 (most : Int)] w (NearsPost (nearsL D X.length most) w) := by
  obtain ⟨la, ln, lc, rfl, hl1, hl2, hl3, hl4, hl5⟩ := hV
  have hll : X.length = ln := by rw [← hL.len]; exact hl1
  rw [hll] at h100 hD h24 ⊢
  have HX := Lib.hid hll; have HL := Lib.hid hL; have HV := Lib.hid hl4; have HN := Lib.hid hl1; have HT := Lib.hid hT; have HM := Lib.hid hm; have H24 := Lib.hid h24; have HD := Lib.hid hD
  clear hll hl1 hl2 hl3 hl4 hl5 hL hT hm h24 hD
  go_enter Try.func70, Try.ntmps70
  go_wp2
  go_loopw [8, 7] (fun x v wr => ∃ d : Nat, x = .int .i64 (d : Int) ∧ d ≤ most + 1 ∧ NOwn w.heap.size wr v (nearsU D ln d) ∧ Below w.heap.size w wr) (fun x _ _ => most + 1 - (intOf x).toNat)
  case atStart => exact ⟨0, rfl, by omega, NOwn.nil _ _, Below.refl _ _⟩
  case round =>
    obtain ⟨d, rfl, hd, ho, hb⟩ := hrel
    by_cases hlt : d < most + 1
    · have hd1 : (d : Int) ≤ (most : Int) := by omega
      have hd2 : (d : Int) ≤ 200 := by omega
      have HO := Lib.hid ho; have HB := Lib.hid hb
      clear ho hb
      go_wp2
      go_loopw [22, 7] (fun x v wr => ∃ i : Nat, x = .int .i64 (i : Int) ∧ i ≤ ln ∧ NOwn w.heap.size wr v (nearsU D ln d ++ blockL D i d) ∧ Below w.heap.size w wr) (fun x _ _ => ln - (intOf x).toNat)
      case atStart => exact ⟨0, rfl, by omega, by rw [blockL_zero, List.append_nil]; exact HO.out, HB.out⟩
      case round =>
        clear HO HB
        obtain ⟨i, rfl, hi, ho, hb⟩ := hrel
        by_cases hil : i < ln
        · have hjv : i < vs.length := by rw [HN.out]; exact hil
          have hjx : i < X.length := by rw [HX.out]; exact hil
          obtain ⟨b1, o1, rfl, hc⟩ := HV.out.at hjv
          have cv := hc i hjv
          obtain ⟨a1, n1, c1, e1, s1, s2, s3, s4, s5⟩ := HL.out.sl i hjx
          rw [e1] at cv
          have cv' : wr.cell? ⟨b1, o1 + i, none⟩ = some (.slice a1 n1 c1) := by rw [hb.cell (cell_lt cv)]; exact cv
          have hi0 : (0 : Int) ≤ (i : Int) := by omega
          have hin : (i : Int) < (ln : Int) := by omega
          have hn1 : n1 ≤ 24 := by rw [← s1]; exact H24.out i hil
          have HF := Lib.hid (ref_far a1 a n1 m c1 c (rx X i) wd wr (s4.below hb) (HT.out.below hb) s1 HM.out (by omega) (by omega))
          rw [← HD.out i hil] at HF
          have HO := Lib.hid ho; have HB := Lib.hid hb
          have hbs := hb.size
          have hlen := nearsU_len D ln d i (by omega)
          obtain ⟨e, he⟩ : ∃ e, D i = e := ⟨_, rfl⟩
          rw [he] at HF
          have HEI := Lib.hid he
          clear hc cv e1 s1 s2 s3 s4 s5 hjv hjx ho hb hn1 he HV
          by_cases hed : e = d
          · have HED := Lib.hid hed
            have xd : ((e : Int) == (d : Int)) = true := by rw [beq_iff_eq]; omega
            clear hed
            go_wp2_with (first | (go_at_call 71; go_loud (refine (HF.out).mono ?_; rintro e3 w3 ⟨rfl, hb3⟩; have ho3 := HO.out.kept hb3; have hb03 := HB.out.trans (hb3.mono hbs); have hbs3 := hb03.size)) | (at_builtin; go_loud (refine napp1 rfl _ _ rfl w.heap.size _ _ ⟨(i : Int), (d : Int)⟩ w3.heap.size rfl rfl (ho3.alloc _) (Blk.new _ _ _) (by omega) (by rw [World.size_alloc]; omega) ?_; intro v4 w4 h4 hg4)))
            go_roundw
            case rel =>
              refine ⟨i + 1, by go_num, by omega, ?_, ?_⟩
              · rw [blockL_yes (HEI.out.trans HED.out), ← List.append_assoc]; exact h4
              · exact (hb03.alloc hbs3 _).grown hg4 (by rw [World.size_alloc]; omega) ho3.row
            case measure => simp [intOf]; omega
          · have HED := Lib.hid hed
            have xd : ((e : Int) == (d : Int)) = false := by rw [beq_eq_false_iff_ne]; omega
            clear hed
            go_wp2_with (go_at_call 71; go_loud (refine (HF.out).mono ?_; rintro e3 w3 ⟨rfl, hb3⟩; have ho3 := HO.out.kept hb3; have hb03 := HB.out.trans (hb3.mono hbs)))
            go_roundw
            case rel =>
              refine ⟨i + 1, by go_num, by omega, ?_, hb03⟩
              rw [blockL_no (by rw [HEI.out]; exact HED.out)]; exact ho3
            case measure => simp [intOf]; omega
        · obtain rfl : i = ln := by omega
          rw [← nearsU_next] at ho
          have HO := Lib.hid ho
          clear ho hi hil
          go_wp2
          refine ⟨⟨d + 1, rfl, by omega, HO.out, hb⟩, by simp [intOf]; omega⟩
    · obtain rfl : d = most + 1 := by omega
      have hd1 : ¬ (((most + 1 : Nat) : Int) ≤ (most : Int)) := by omega
      have HO := Lib.hid (show NOwn w.heap.size wr _ (nearsL D ln most) from ho)
      clear ho hd hlt
      go_wp2
      go_ret
      exact ⟨_, rfl, HO.out, hb⟩

end Go.Proofs.Ytmipnikhgihcpaa
