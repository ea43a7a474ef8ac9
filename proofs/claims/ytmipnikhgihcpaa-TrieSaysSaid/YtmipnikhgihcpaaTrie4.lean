/- Contracts of trie.right, trie.New. -/
import Derived.Test.YtmipnikhgihcpaaTrie3
namespace Go.Proofs.Ytmipnikhgihcpaa
open Go.RowKit
set_option linter.unusedVariables false
set_option linter.unusedSimpArgs false

def badT (X : List (List Int)) : Bool := decide (100 < X.length) || X.any fun l => decide (24 < l.length)
def setS : List (List Int) → List (List Int) → List (List Int)
  | S, [] => S
  | S, x :: X => setS (insT S x) X
theorem setS_snoc (S X : List (List Int)) (x : List Int) : setS S (X ++ [x]) = insT (setS S X) x := by
  induction X generalizing S with
  | nil => rfl
  | cons y X ih => exact ih (insT S y)
theorem setS_len (X : List (List Int)) : ∀ S : List (List Int), (setS S X).length ≤ S.length + X.length := by
  induction X with
  | nil => intro S; exact Nat.le_refl _
  | cons y X ih =>
    intro S
    have h1 := ih (insT S y); have h2 := insT_len S y
    simp only [setS, List.length_cons]; omega
theorem setS_mem {X : List (List Int)} {v : List Int} : ∀ {S : List (List Int)}, v ∈ setS S X ↔ v ∈ S ∨ v ∈ X := by
  induction X with
  | nil => intro S; simp [setS]
  | cons y X ih => intro S; simp only [setS]; rw [ih, insT_mem, List.mem_cons, or_assoc]
theorem setS_nodup {X : List (List Int)} : ∀ {S : List (List Int)}, S.Nodup → (setS S X).Nodup := by
  induction X with
  | nil => intro S h; exact h
  | cons y X ih => intro S h; exact ih (insT_nodup h y)

set_option maxRecDepth 100000 in
set_option maxHeartbeats 2000000 in
theorem trie_right (lv : Value) (vs : List Value) (X : List (List Int)) (w : World) (hV : Vs w lv vs) (hL : Lists w vs X) :
    Calls Try.prog 133 #[lv] w (fun e w' => e = .returned (.int .i64 (if badT X then 2 else 0)) ∧ w = w') := by
  obtain ⟨la, ln, lc, rfl, hl1, hl2, hl3, hl4, hl5⟩ := hV
  have hll : X.length = ln := by rw [← hL.len]; exact hl1
  obtain ⟨bad, hbad⟩ : ∃ b, badT X = b := ⟨_, rfl⟩
  rw [hbad]
  by_cases h100 : 100 < ln
  · have hb : bad = true := by rw [← hbad]; unfold badT; rw [hll]; simp [h100]
    subst hb
    have h1 : (100 : Int) < (ln : Int) := by omega
    clear hbad
    go_enter Try.func133, Try.ntmps133
    go_wp2
    go_ret
    exact ⟨rfl, rfl⟩
  · have h1 : (ln : Int) ≤ 100 := by omega
    have HX := Lib.hid hll; have HL := Lib.hid hL; have HV := Lib.hid hl4; have HN := Lib.hid hl1; have HBAD := Lib.hid hbad
    clear h100 hll hl1 hl2 hl3 hl4 hl5 hL hbad
    go_enter Try.func133, Try.ntmps133
    go_wp2
    go_loopw [10] (fun x wr => ∃ j : Nat, x = .int .i64 (j : Int) ∧ j ≤ ln ∧ (∀ q, q < j → (rx X q).length ≤ 24) ∧ w = wr) (fun x _ => ln - (intOf x).toNat)
    case atStart => exact ⟨0, rfl, by omega, fun q hq => by omega, rfl⟩
    case round =>
      obtain ⟨j, rfl, hj, hq, rfl⟩ := hrel
      by_cases hlt : j < ln
      · have hjv : j < vs.length := by rw [HN.out]; exact hlt
        have hjx : j < X.length := by rw [HX.out]; exact hlt
        obtain ⟨b1, o1, rfl, hc⟩ := HV.out.at hjv
        have cv := hc j hjv
        obtain ⟨a1, n1, c1, e1, s1, s2, s3, s4, s5⟩ := HL.out.sl j hjx
        rw [e1] at cv
        have hi0 : (0 : Int) ≤ (j : Int) := by omega
        have hin : (j : Int) < (ln : Int) := by omega
        have HQ := Lib.hid hq
        have HV2 := Lib.hid (show Vals w (some ⟨b1, o1, none⟩) vs from HV.out)
        by_cases hlong : 24 < n1
        · have hl : (24 : Int) < (n1 : Int) := by omega
          have hb : bad = true := by
            rw [← HBAD.out]; unfold badT
            rw [Bool.or_eq_true]; right
            rw [List.any_eq_true]
            exact ⟨rx X j, rx_memT hjx, by rw [s1]; simpa using hlong⟩
          subst hb
          clear hc e1 s1 s2 s3 s4 s5 hq hlong HBAD HV
          go_wp2
          go_ret
          exact ⟨rfl, rfl⟩
        · have hl : (n1 : Int) ≤ 24 := by omega
          have HQ2 := Lib.hid (show ∀ q, q < j + 1 → (rx X q).length ≤ 24 from fun q hq => by
            rcases Nat.lt_succ_iff_lt_or_eq.1 hq with h | rfl
            · exact HQ.out q h
            · rw [s1]; omega)
          clear hc e1 s1 s2 s3 s4 s5 hq hlong HV
          go_wp2
          refine ⟨⟨j + 1, by go_num, by omega, HQ2.out, by first | trivial | rfl⟩, by simp [intOf]; omega⟩
      · obtain rfl : j = ln := by omega
        have hb : bad = false := by
          rw [← HBAD.out]; unfold badT
          rw [Bool.or_eq_false_iff]
          refine ⟨by rw [HX.out]; simpa using (by omega : ¬ 100 < j), ?_⟩
          rw [List.any_eq_false]
          intro x hx
          obtain ⟨i, hi, rfl⟩ := List.mem_iff_getElem.1 hx
          have := hq i (by rw [← HX.out]; exact hi)
          rw [rx_at hi] at this
          simpa using this
        subst hb
        clear hq hj hlt HBAD
        go_wp2
        go_ret
        exact ⟨rfl, rfl⟩

def NewTP (X : List (List Int)) (w : World) (e : Ending) (w' : World) : Prop := ∃ A B M, e = .returned (.tuple #[.pointer (some ⟨B 0, 0, none⟩), .int .i64 0]) ∧ TInv A (setS [] X) ∧ TrH w' w.heap.size A B M (inS (setS [] X)) (cnt (setS [] X)) ∧ Below w.heap.size w w' ∧ A.length ≤ 100000 ∧ ∀ q ∈ A, q = [] ∨ ∃ s ∈ setS [] X, q <+: s
set_option maxRecDepth 100000 in
theorem trie_new_bad (lv : Value) (vs : List Value) (X : List (List Int)) (w : World) (hV : Vs w lv vs) (hL : Lists w vs X) (hb : badT X = true) :
    Calls Try.prog 73 #[lv] w (fun e w' => e = .returned (.tuple #[.pointer none, .int .i64 2]) ∧ w = w') := by
  have HR := Lib.hid (trie_right lv vs X w hV hL)
  rw [if_pos hb] at HR
  obtain ⟨la, ln, lc, rfl, -⟩ := hV
  clear hL
  go_enter Try.func73, Try.ntmps73
  go_wp2_with (go_at_call 133; go_loud (refine (HR.out).mono ?_; rintro e w3 ⟨rfl, rfl⟩))
  go_ret2
  exact ⟨rfl, rfl⟩

set_option maxRecDepth 100000 in
set_option maxHeartbeats 2000000 in
theorem trie_new (lv : Value) (vs : List Value) (X : List (List Int)) (w : World) (hV : Vs w lv vs) (hL : Lists w vs X) (hb : badT X = false) :
    Calls Try.prog 73 #[lv] w (NewTP X w) := by
  have HR := Lib.hid (trie_right lv vs X w hV hL)
  rw [if_neg (by rw [hb]; simp)] at HR
  obtain ⟨la, ln, lc, rfl, hl1, hl2, hl3, hl4, hl5⟩ := hV
  have hll : X.length = ln := by rw [← hL.len]; exact hl1
  unfold badT at hb
  rw [Bool.or_eq_false_iff] at hb
  have h100 : ln ≤ 100 := by have := hb.1; rw [hll] at this; simpa using this
  have H24 := Lib.hid (show ∀ j, j < X.length → (rx X j).length ≤ 24 from fun j hj => by
    have := List.any_eq_false.1 hb.2 _ (rx_memT hj)
    simpa using this)
  have h1 : (ln : Int) ≤ 100 := by omega
  have HX := Lib.hid hll; have HL := Lib.hid hL; have HV := Lib.hid hl4; have HN := Lib.hid hl1
  clear hll hl1 hl2 hl3 hl4 hl5 hL hb
  go_enter Try.func73, Try.ntmps73
  go_wp2_with (go_at_call 133; go_loud (refine (HR.out).mono ?_; rintro e w3 ⟨rfl, rfl⟩))
  go_loopw [17] (fun x wr => ∃ (j : Nat) (A : List (List Int)) (B : Nat → Nat) (M : Nat → Option Nat), x = .int .i64 (j : Int) ∧ j ≤ ln ∧ TInv A (setS [] (X.take j)) ∧ TrH wr w.heap.size A B M (inS (setS [] (X.take j))) (cnt (setS [] (X.take j))) ∧ B 0 = w.heap.size ∧ Below w.heap.size w wr ∧ A.length ≤ 1 + 24 * j ∧ ∀ q ∈ A, q = [] ∨ ∃ s ∈ setS [] (X.take j), q <+: s) (fun x _ => ln - (intOf x).toNat)
  case atStart => exact ⟨0, [[]], fun _ => w.heap.size, fun _ => none, rfl, by omega, TInv.one, TrH.first w w.heap.size (Nat.le_refl _) _ _ rfl rfl, rfl, below1 w _, by simp, fun q hq => (by simp at hq; exact .inl hq)⟩
  case round =>
    obtain ⟨j, A, B, M, rfl, hj, hI, hH, hB0, hbel, hAl, hAq⟩ := hrel
    have HAQ := Lib.hid hAq
    clear hAq
    by_cases hlt : j < ln
    · have hjv : j < vs.length := by rw [HN.out]; exact hlt
      have hjx : j < X.length := by rw [HX.out]; exact hlt
      obtain ⟨b1, o1, rfl, hc⟩ := HV.out.at hjv
      have cv := hc j hjv
      obtain ⟨a1, n1, c1, e1, s1, s2, s3, s4, s5⟩ := HL.out.sl j hjx
      rw [e1] at cv
      have cv' : wr.cell? ⟨b1, o1 + j, none⟩ = some (.slice a1 n1 c1) := by rw [hbel.cell (cell_lt cv)]; exact cv
      have hi0 : (0 : Int) ≤ (j : Int) := by omega
      have hin : (j : Int) < (ln : Int) := by omega
      have hS := setS_len (X.take j) []
      have hn24 := H24.out j hjx
      have HN24 := Lib.hid hn24
      rw [s1] at hn24
      have HP := Lib.hid (trie_put w (setS [] (X.take j)) (by rw [List.length_take] at hS; simp at hS; omega) (rx X j) [] a1 n1 c1 A B M 0 wr s4 s1 s2 (by simpa using hn24) hbel hI.pos hI.root hI hH)
      rw [hB0] at HP
      have HV2 := Lib.hid (show Vals w (some ⟨b1, o1, none⟩) vs from HV.out)
      have HB0 := Lib.hid hB0; have HBE := Lib.hid hbel; have HPO := Lib.hid hI.pos; have HSX := Lib.hid (show setS [] (X.take (j + 1)) = insT (setS [] (X.take j)) (rx X j) by rw [take_succ_rx hjx, setS_snoc])
      clear hc cv e1 s1 s2 s3 s4 s5 hI hH hB0 hbel HV hS hn24
      go_wp2_with (go_at_call 134; go_loud (refine (HP.out).mono ?_; rintro e w5 ⟨rfl, A3, B3, M3, hp3, hB3, hI3, hH3, hb3, hl3, hq3⟩; have HQ3 := Lib.hid hq3; have HLE3 := Lib.hid hl3; have HB3 := Lib.hid hB3; have HI3 := Lib.hid hI3; have HH3 := Lib.hid hH3; have HBE3 := Lib.hid hb3; clear hp3 hB3 hI3 hH3 hb3 hl3 hq3))
      refine ⟨⟨j + 1, A3, B3, M3, by go_num, by omega, by rw [HSX.out]; exact HI3.out, ?_, (HB3.out 0 HPO.out).trans HB0.out, HBE.out.trans HBE3.out, by have h1 := HLE3.out; have h2 := HN24.out; simp at h1; omega, fun q hq => (by
        rw [HSX.out]
        rcases HQ3.out q hq with h | h
        · rcases HAQ.out q h with h | ⟨s, hs, h⟩
          · exact .inl h
          · exact .inr ⟨s, insT_mem.2 (.inl hs), h⟩
        · exact .inr ⟨_, insT_mem.2 (.inr rfl), by simpa using h⟩)⟩, by simp [intOf]; omega⟩
      rw [HSX.out]
      exact HH3.out.same (fun _ _ => rfl) (fun _ _ => by unfold zPut; rw [if_pos (by simp), List.nil_append])
    · obtain rfl : j = ln := by omega
      rw [List.take_of_length_le (by rw [HX.out]; exact Nat.le_refl _)] at hI hH HAQ
      have HI := Lib.hid hI; have HH := Lib.hid hH; have HB0 := Lib.hid hB0; have HBE := Lib.hid hbel
      clear hI hH hB0 hbel hlt
      go_wp2
      go_ret2
      exact ⟨A, B, M, by rw [HB0.out]; rfl, HI.out, HH.out, HBE.out, by omega, HAQ.out⟩

end Go.Proofs.Ytmipnikhgihcpaa
