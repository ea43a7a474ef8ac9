/- Contract of near.New. -/
import Derived.Test.YtmipnikhgihcpaaNear4
import Derived.Test.YtmipnikhgihcpaaVRow
namespace Go.Proofs.Ytmipnikhgihcpaa
open Go.RowKit
set_option linter.unusedVariables false
set_option linter.unusedSimpArgs false

def longW (l : List Int) : Bool := decide (24 < l.length)
def NewBad (er : Int) (w : World) (e : Ending) (w' : World) : Prop := e = .returned (.tuple #[.pointer none, .int .i64 er]) ∧ Below w.heap.size w w'
def NewPost (X : List (List Int)) (w : World) (e : Ending) (w' : World) : Prop := ∃ A B M, e = .returned (.tuple #[.pointer (some ⟨B 0, 0, none⟩), .int .i64 0]) ∧ Inv A ∧ ArH w' w.heap.size A B M ∧ A.map (·.wd) = X ∧ Below w.heap.size w w'
def NewAll (bad : Bool) (X : List (List Int)) (w : World) (e : Ending) (w' : World) : Prop := (bad = true ∧ NewBad 2 w e w') ∨ (bad = false ∧ NewPost X w e w')
theorem rx_mem' {X : List (List Int)} {i : Nat} (h : i < X.length) : rx X i ∈ X := by rw [rx_at h]; exact List.getElem_mem h
theorem wds_len {A : List Nd} {X : List (List Int)} (h : A.map (·.wd) = X) : A.length = X.length := by rw [← h, List.length_map]
theorem wds_at {A : List Nd} {X : List (List Int)} (h : A.map (·.wd) = X) {i : Nat} (hi : i < A.length) : (nd A i).wd = rx X i := by
  subst h
  unfold nd rx
  rw [List.getD_eq_getElem?_getD, List.getD_eq_getElem?_getD, List.getElem?_map, List.getElem?_eq_getElem hi]; rfl
theorem ArH.first (w : World) (base : Nat) (wd : List Int) (sv : Value) (hb : base ≤ w.heap.size) (hsv : Own 3 base w sv wd) :
    ArH ((w.alloc (.map #[] 0)).alloc (.cells #[sv, .int .i64 0, .map (some w.heap.size)] 206)) base [⟨wd, 0, 0⟩] (fun _ => w.heap.size + 1) (fun _ => w.heap.size) := by
  have hnew := Blk.new (w.alloc (.map #[] 0)) #[sv, .int .i64 0, .map (some w.heap.size)] 206
  rw [World.size_alloc] at hnew
  have hk : kidsOf [(⟨wd, 0, 0⟩ : Nd)] 0 = [] := rfl
  refine ⟨fun i hi => ?_, fun i hi => ?_, fun i j hi hj _ => ?_, fun i hi => ⟨by omega, hb⟩⟩
  · obtain rfl : i = 0 := by simpa using hi
    exact ⟨sv, hnew, hsv.kept (below2 _ _ _)⟩
  · obtain rfl : i = 0 := by simpa using hi
    unfold MapB kidE
    rw [hk, Below.heap_alloc _ _ _ (by rw [World.size_alloc]; omega)]
    exact heap_alloc_new w _
  · simp at hi hj; omega

set_option maxRecDepth 100000 in
set_option maxHeartbeats 2000000 in
theorem near_new (lv : Value) (vs : List Value) (X : List (List Int)) (w : World) (hV : Vs w lv vs) (hL : Lists w vs X) (hr : X ≠ []) (h100 : X.length ≤ 100) :
    Calls Try.prog 65 #[lv] w (NewAll (X.any longW) X w) := by
  obtain ⟨la, ln, lc, rfl, hl1, hl2, hl3, hl4, hl5⟩ := hV
  have hll : X.length = ln := by rw [← hL.len]; exact hl1
  have h0 : 1 ≤ ln := by rw [← hll]; rcases X with _ | ⟨x, X⟩; exact absurd rfl hr; simp
  have h1 : (ln : Int) ≤ 100 := by omega
  have h2 : (1 : Int) ≤ (ln : Int) := by omega
  have HX := Lib.hid hll; have HL := Lib.hid hL; have HV := Lib.hid hl4; have HN := Lib.hid hl1
  have hmm := @run_makeMap Try.prog
  obtain ⟨bad, hbad⟩ : ∃ b, X.any longW = b := ⟨_, rfl⟩
  rw [hbad]
  have HBAD := Lib.hid hbad
  clear hr h100 hll hl1 hl2 hl3 hl4 hl5 hL hbad
  go_enter Try.func65, Try.ntmps65
  go_wp2
  go_loopw [15, 4] (fun x t wr => ∃ j : Nat, x = .int .i64 (j : Int) ∧ j ≤ ln ∧ (∀ q, q < j → (rx X q).length ≤ 24) ∧ Below w.heap.size w wr ∧ ((j = 0 ∧ t = .pointer none) ∨ ∃ A B M, 1 ≤ j ∧ t = .pointer (some ⟨B 0, 0, none⟩) ∧ Inv A ∧ ArH wr w.heap.size A B M ∧ A.map (·.wd) = X.take j)) (fun x _ _ => ln - (intOf x).toNat)
  case atStart => exact ⟨0, rfl, by omega, fun q hq => by omega, Below.refl _ _, .inl ⟨rfl, rfl⟩⟩
  case round =>
    obtain ⟨j, rfl, hj, hq, hbel, ht⟩ := hrel
    by_cases hlt : j < ln
    · have hjv : j < vs.length := by rw [HN.out]; exact hlt
      have hjx : j < X.length := by rw [HX.out]; exact hlt
      obtain ⟨b1, o1, rfl, hc⟩ := HV.out.at hjv
      have cv := hc j hjv
      obtain ⟨a1, n1, c1, e1, s1, s2, s3, s4, s5⟩ := HL.out.sl j hjx
      rw [e1] at cv
      have cv' : wr.cell? ⟨b1, o1 + j, none⟩ = some (.slice a1 n1 c1) := by rw [hbel.cell (cell_lt cv)]; exact cv
      have hi0 : (0 : Int) ≤ (j : Int) := by omega
      have hin : (j : Int) < (ln : Int) := by omega
      have HQ := Lib.hid hq; have HB := Lib.hid hbel; have HJX := Lib.hid hjx
      have HV2 := Lib.hid (show Vals w (some ⟨b1, o1, none⟩) vs from HV.out)
      by_cases hlong : 24 < n1
      · have hl : (24 : Int) < (n1 : Int) := by omega
        have HB1 := Lib.hid (show bad = true by
          rw [← HBAD.out, List.any_eq_true]
          exact ⟨rx X j, rx_mem' hjx, by unfold longW; rw [s1]; simpa using hlong⟩)
        clear hc cv e1 s1 s2 s3 s4 s5 hq hbel ht hlong hjx hjv HV
        go_wp2
        go_ret2
        exact .inl ⟨HB1.out, rfl, HB.out⟩
      · have hl : (n1 : Int) ≤ 24 := by omega
        have hs1 : Ints wr a1 (rx X j) := s4.below hbel
        have hlen : n1 ≤ 24 := by omega
        have HCL := Lib.hid (slices_clone a1 n1 c1 (rx X j) wr hs1 s1 (by omega) s5)
        have HS1 := Lib.hid s1
        have hbw := hbel.size
        have HQ2 := Lib.hid (show ∀ q, q < j + 1 → (rx X q).length ≤ 24 from fun q hq => by
          rcases Nat.lt_succ_iff_lt_or_eq.1 hq with h | rfl
          · exact HQ.out q h
          · rw [HS1.out]; exact hlen)
        clear hc cv e1 s1 s2 s3 s4 s5 hq hbel hlong hs1 hjx hjv HV
        rcases ht with ⟨hj0, rfl⟩ | ⟨A, B, M, hj1, rfl, hI, hH, hA⟩
        · have HJ0 := Lib.hid hj0
          clear hj0
          go_wp2_with (go_at_call 98; go_loud (refine (HCL.out).mono ?_; rintro e w3 ⟨v3, rfl, ho3, hb3⟩; obtain ⟨a3, m3, c3, rfl⟩ := ho3.form; have hb03 := HB.out.trans (hb3.mono hbw); have HF := Lib.hid (ArH.first w3 w.heap.size (rx X j) (.slice a3 m3 c3) (Nat.le_trans hbw hb3.size) (ho3.mono hbw)); have HBF := Lib.hid (below2 w3 (.map #[] 0) (.cells #[.slice a3 m3 c3, .int .i64 0, .map (some w3.heap.size)] 206)); clear hb3))
          refine ⟨⟨j + 1, rfl, by omega, HQ2.out, hb03.trans (HBF.out.mono hb03.size), .inr ⟨_, _, _, by omega, rfl, Inv.one _, HF.out, ?_⟩⟩, by simp [intOf]; omega⟩
          have := HJX.out
          rw [HJ0.out] at this ⊢
          rcases X with _ | ⟨x, X⟩
          · simp at this
          · rfl
        · have hAl := wds_len hA
          have hal : A.length = j := by rw [hAl, List.length_take]; have := HJX.out; omega
          have hwd : ∀ x, x < A.length → (nd A x).wd.length ≤ 24 := fun x hx => by
            rw [wds_at hA hx, rx_take (by omega)]
            exact HQ.out x (by omega)
          have HPUT := Lib.hid (fun (w3 : World) (a3 : Option Addr) (c3 : Nat) (hb3 : Below wr.heap.size wr w3) (ho : Own 3 w.heap.size w3 (.slice a3 n1 c3) (rx X j)) => near_put w.heap.size A B M hI (rx X j) a3 n1 c3 hlen hwd A.length 0 (by omega) (by omega) (OnPath.root A hI.par (by omega) _) w3 (hH.kept hb3) ho (Nat.le_trans hbw hb3.size))
          rw [hal] at HPUT
          have HA := Lib.hid hA
          clear hwd hAl hA hI hH
          go_wp2_with (first | (go_at_call 98; go_loud (refine (HCL.out).mono ?_; rintro e w3 ⟨v3, rfl, ho3, hb3⟩; obtain ⟨a3, m3, c3, rfl⟩ := ho3.form; have hm3 := ho3.get.1; rw [HS1.out] at hm3; subst hm3; have hb03 := HB.out.trans (hb3.mono hbw); have HP := Lib.hid (HPUT.out w3 a3 c3 hb3 (ho3.mono hbw)); clear ho3 hb3)) | (go_at_call 129; go_loud (refine (HP.out).mono ?_; intro e w5 h5; have he := h5.1; subst he; have H5 := Lib.hid h5; clear h5)))
          obtain ⟨-, p, B', M', h1, h2, h3, h4, h5⟩ := H5.out
          refine ⟨⟨j + 1, rfl, by omega, HQ2.out, hb03.trans h5, .inr ⟨_, B', M', by omega, by rw [h4], h2, h3, ?_⟩⟩, by simp [intOf]; omega⟩
          rw [List.map_append, HA.out]
          simp only [List.map_cons, List.map_nil]
          rw [List.take_succ_eq_append_getElem HJX.out, rx_at HJX.out]
    · obtain rfl : j = ln := by omega
      have HQ := Lib.hid hq
      have HB1 := Lib.hid (show bad = false by
        rw [← HBAD.out, List.any_eq_false]
        intro x hx
        obtain ⟨i, hi, rfl⟩ := List.mem_iff_getElem.1 hx
        have := HQ.out i (by rw [← HX.out]; exact hi)
        rw [rx_at hi] at this
        unfold longW
        simpa using this)
      clear hq hj hlt
      rcases ht with ⟨rfl, rfl⟩ | ⟨A, B, M, hj1, rfl, hI, hH, hA⟩
      · omega
      · have HI := Lib.hid hI; have HH := Lib.hid hH; have HA := Lib.hid hA
        clear hI hH hA
        go_wp2
        go_ret2
        exact .inr ⟨HB1.out, A, B, M, rfl, HI.out, HH.out, by rw [HA.out, List.take_of_length_le (by rw [HX.out]; exact Nat.le_refl _)], hbel⟩

end Go.Proofs.Ytmipnikhgihcpaa
