/- Contract of fairref.Take at a right part; the walk of KeysTakes. -/
import Derived.Test.YtmipnikhgihcpaaKey8
import Derived.Test.YtmipnikhgihcpaaKey9
import Derived.Test.YtmipnikhgihcpaaKey10
namespace Go.Proofs.Ytmipnikhgihcpaa
open Go.RowKit
set_option linter.unusedVariables false
set_option linter.unusedSimpArgs false

theorem kd_dg {f r o s key : Int} (h : dgB (if o ≠ 0 then s else f) key = true) : kdV f r o s key = 1 := by unfold kdV; rw [if_pos h]
theorem kd_leaf {f r o s key : Int} (h : dgB (if o ≠ 0 then s else f) key = false) : kdV f r o s key =
    if opB key = true then 3 else if moB key = true then 5 else if fiB key = true then 4
    else if iaB key = true then (if o ≠ 0 then 8 else 6) else if o ≠ 0 then 0
    else if key = 34 then (if r ≠ 0 then 0 else 2) else if key = 114 then 7 else if plB key = true then 6 else 0 := by unfold kdV; rw [h]; rfl
theorem tk_of {f r o s key k : Int} (hu : Usual key) (h : kdV f r o s key = k) : takV f r o s 0 key =
    if k = 1 then (if o ≠ 0 then TK.more f r o (cntV s key) 0 else TK.more (cntV f key) r o s 0)
    else if k = 2 ∨ k = 4 ∨ k = 7 ∨ k = 8 then TK.more f r o s key
    else if k = 3 then (if o = 0 then TK.more f r key s 0 else if o ≠ key then TK.wrong else TK.done f r o s key 0)
    else if k = 5 ∨ k = 6 then TK.done f r o s key 0
    else TK.wrong := by subst h; exact takV_k hu

def RefT (f r o s wt key : Int) : Prop := ∀ w : World, partE f r o s wt = 0 →
  Calls Try.prog 119 #[.agg #[.int .i64 f, .int .i64 r, .int .i64 o, .int .i64 s, .int .i64 wt], .int .i64 key] w (RefPost (takV f r o s wt key) w)

theorem ref_take_z (f r s key : Int) (hu : Usual key) : RefT f r 0 s 0 key := by
  intro w hp
  have o1 : ((0 : Int) != 0) = false := by decide
  have o2 : ((0 : Int) == 0) = true := by decide
  cases hdg : decide (49 ≤ key ∧ key ≤ 57) with
  | true =>
    have h' := of_decide_eq_true hdg
    rw [tk_of hu (kd_dg (by simp [dgB]; omega))]
    simpa using ref_take_d1z f r 0 s key w hp hu hdg h'.1 h'.2 o1 o2
  | false =>
    have h' := of_decide_eq_false hdg
    by_cases h48 : key = 48 ∧ 0 < f
    · obtain ⟨rfl, hf⟩ := h48
      rw [tk_of hu (kd_dg (by simp [dgB]; omega))]
      simpa using ref_take_d2z f r 0 s w hp hf o1 o2
    · have hk := kd_leaf (f := f) (r := r) (o := 0) (s := s) (key := key) (by simp [dgB]; omega)
      cases hop : opB key with
      | true =>
        obtain ⟨-, -, -, -, -, -, k48, -⟩ := op_no hop
        rw [hop] at hk
        rw [tk_of hu hk]
        simpa using ref_take_op_z f r 0 s key w hp hu hdg hop k48 o1 o2
      | false =>
        cases hmo : moB key with
        | true =>
          rw [hop, hmo] at hk
          rw [tk_of hu hk]
          cases k48 : key == 48 with
          | true => simpa using ref_take_mz_z f r 0 s key w hp hu hdg hop hmo k48 (by rw [beq_iff_eq] at k48; omega) o1 o2
          | false => simpa using ref_take_mo_z f r 0 s key w hp hu hdg hop hmo k48 o1 o2
        | false =>
          have k48 : (key == 48) = false := by
            rw [beq_eq_false_iff_ne]; rintro rfl; simp [moB] at hmo
          cases hfi : fiB key with
          | true =>
            rw [hop, hmo, hfi] at hk
            rw [tk_of hu hk]
            simpa using ref_take_fi_z f r 0 s key w hp hu hdg hop hmo hfi k48 o1 o2
          | false =>
            cases hia : iaB key with
            | true =>
              obtain ⟨-, -, -, k114, k34⟩ := ia_no hia
              rw [hop, hmo, hfi, hia] at hk
              rw [tk_of hu hk]
              cases hr : r == 0 with
              | true => simpa using ref_take_ia_zr f r 0 s key w hp hu hdg hop hmo hfi hia (by rw [hia]; rfl) k48 o1 o2 k114 k34 hr
              | false => simpa using ref_take_ia_zs f r 0 s key w hp hu hdg hop hmo hfi hia (by rw [hia]; rfl) k48 o1 o2 k114 k34 hr
            | false =>
              rw [hop, hmo, hfi, hia] at hk
              cases k34 : key == 34 with
              | true =>
                obtain ⟨-, -, -, -, hpl, k114⟩ := c34_no k34
                have e34 : key = 34 := by simpa using k34
                cases hr : r == 0 with
                | true =>
                  have er : r = 0 := by simpa using hr
                  rw [tk_of hu hk]
                  simpa [e34, er] using ref_take_q_z f r 0 s key w hp hu hdg hop hmo hfi hia k48 o1 o2 k114 k34 hr
                | false =>
                  have er : r ≠ 0 := by simpa using hr
                  rw [tk_of hu hk]
                  simpa [e34, er] using ref_take_qn_z f r 0 s key w hp hu hdg hop hmo hfi hia (by rw [hia, hpl]; rfl) k48 o1 o2 k114 k34 hr
              | false =>
                have e34 : key ≠ 34 := by simpa using k34
                cases k114 : key == 114 with
                | true =>
                  have e114 : key = 114 := by simpa using k114
                  rw [tk_of hu hk]
                  simpa [e114] using ref_take_r_z f r 0 s key w hp hu hdg hop hmo hfi hia k48 o1 o2 k114 k34
                | false =>
                  have e114 : key ≠ 114 := by simpa using k114
                  rw [tk_of hu hk]
                  cases hpl : plB key with
                  | true =>
                    cases hr : r == 0 with
                    | true => simpa [e34, e114, hpl] using ref_take_pl_zr f r 0 s key w hp hu hdg hop hmo hfi hia (by rw [hia, hpl]; rfl) k48 o1 o2 k114 k34 hr
                    | false => simpa [e34, e114, hpl] using ref_take_pl_zs f r 0 s key w hp hu hdg hop hmo hfi hia (by rw [hia, hpl]; rfl) k48 o1 o2 k114 k34 hr
                  | false =>
                    cases hr : r == 0 with
                    | true => simpa [e34, e114, hpl] using ref_take_no_zr f r 0 s key w hp hu hdg hop hmo hfi hia (by rw [hia, hpl]; rfl) k48 o1 o2 k114 k34 hr
                    | false => simpa [e34, e114, hpl] using ref_take_no_zs f r 0 s key w hp hu hdg hop hmo hfi hia (by rw [hia, hpl]; rfl) k48 o1 o2 k114 k34 hr

theorem ref_take_n (f r o s key : Int) (hu : Usual key) (ho : o ≠ 0) : RefT f r o s 0 key := by
  intro w hp
  have o1 : (o != 0) = true := by simpa using ho
  have o2 : (o == 0) = false := by simpa using ho
  cases hdg : decide (49 ≤ key ∧ key ≤ 57) with
  | true =>
    have h' := of_decide_eq_true hdg
    rw [tk_of hu (kd_dg (by simp [dgB]; omega))]
    simpa [ho] using ref_take_d1o f r o s key w hp hu hdg h'.1 h'.2 o1 o2
  | false =>
    have h' := of_decide_eq_false hdg
    by_cases h48 : key = 48 ∧ 0 < s
    · obtain ⟨rfl, hf⟩ := h48
      rw [tk_of hu (kd_dg (by simp [dgB, ho]; omega))]
      simpa [ho] using ref_take_d2o f r o s w hp hf o1 o2
    · have hk := kd_leaf (f := f) (r := r) (o := o) (s := s) (key := key) (by simp [dgB, ho]; omega)
      cases hop : opB key with
      | true =>
        obtain ⟨n1, n2, n3, -, -, -, k48, -⟩ := op_no hop
        rw [hop] at hk
        rw [tk_of hu hk]
        cases hok : o == key with
        | true =>
          have ek : o = key := by simpa using hok
          have hz : key ≠ 0 := by rw [← ek]; exact ho
          simpa [ho, ek, hz] using ref_take_op_y f r o s key w hp hu hdg hop k48 o1 o2 hok
        | false =>
          have ek : o ≠ key := by simpa using hok
          simpa [ho, ek] using ref_take_op_n f r o s key w hp hu hdg hop n1 n2 n3 k48 o1 o2 hok
      | false =>
        cases hmo : moB key with
        | true =>
          rw [hop, hmo] at hk
          rw [tk_of hu hk]
          cases k48 : key == 48 with
          | true => simpa using ref_take_mz_n f r o s key w hp hu hdg hop hmo k48 (by rw [beq_iff_eq] at k48; omega) o1 o2
          | false => simpa using ref_take_mo_n f r o s key w hp hu hdg hop hmo k48 o1 o2
        | false =>
          have k48 : (key == 48) = false := by
            rw [beq_eq_false_iff_ne]; rintro rfl; simp [moB] at hmo
          cases hfi : fiB key with
          | true =>
            rw [hop, hmo, hfi] at hk
            rw [tk_of hu hk]
            simpa using ref_take_fi_n f r o s key w hp hu hdg hop hmo hfi k48 o1 o2
          | false =>
            cases hia : iaB key with
            | true =>
              rw [hop, hmo, hfi, hia] at hk
              rw [tk_of hu hk]
              simpa [ho] using ref_take_ia_n f r o s key w hp hu hdg hop hmo hfi hia k48 o1 o2
            | false =>
              rw [hop, hmo, hfi, hia] at hk
              rw [tk_of hu hk]
              simpa [ho] using ref_take_no_n f r o s key w hp hu hdg hop hmo hfi hia k48 o1 o2

theorem ref_take (f r o s wt key : Int) : RefT f r o s wt key := by
  by_cases hlo : key < 32 ∨ key = 127
  · intro w hp
    rw [takV_lo hlo]
    by_cases h1 : key < 32
    · exact ref_take_lo1 f r o s wt key w hp h1
    · exact ref_take_lo2 f r o s wt key w hp (by simp; omega) (by omega)
  · have hu : Usual key := hlo
    by_cases hw : wt = 0
    · subst hw
      by_cases ho : o = 0
      · subst ho; exact ref_take_z f r s key hu
      · exact ref_take_n f r o s key hu ho
    · intro w hp
      rw [takV_aw hu hw]
      by_cases h34 : wt = 34
      · subst h34
        cases hl : letB key with
        | true => rw [awa_34y hl]; exact ref_take_q_y f r o s key w hp hu hl
        | false => rw [awa_34n hl]; exact ref_take_q_n f r o s key w hp hu hl
      · cases hi : iaB wt with
        | true =>
          cases hb : obB key with
          | true => rw [awa_iay hi hb]; exact ref_take_i_y f r o s wt key w hp hu hi hb
          | false => rw [awa_ian hi hb]; exact ref_take_i_n f r o s wt key w hp hu hi hb
        | false => rw [awa_oth hi h34]; exact ref_take_w_o f r o s wt key w hp hu hi h34 hw

end Go.Proofs.Ytmipnikhgihcpaa
