/- LiftEditDoes, part 14: joined from the texts DsE DsM DrC DsF SameL Spl6. No condition of its own. -/
import Derived.Test.YtmipnikhgihcpaaEditDJ1
import Derived.Test.YtmipnikhgihcpaaEditDJ11
import Derived.Test.YtmipnikhgihcpaaEditDJ13
set_option linter.unusedVariables false
set_option linter.unusedSimpArgs false
namespace Go.Proofs.Ytmipnikhgihcpaa
open Go.RowKit
set_option maxRecDepth 100000 in
set_option maxHeartbeats 4000000 in
theorem ref_do_chk (a : Option Addr) (n c : Nat) (k fk fa : Int) (vs : List Value) (cm : C5) (w : World) (E : Int) (hE : lnE n k = E) (h0 : E ≠ 0) :
  Calls Try.prog 84 #[.agg #[.slice a n c, .int .i64 k], .agg (rgA vs), .agg #[.int .i64 fk, .int .i64 fa], .agg #[.int .i64 cm.a, .int .i64 cm.b, .int .i64 cm.c, .int .i64 cm.d, .int .i64 cm.e]] w (DoPost E (zSt cm) w) := by
 have hal := alloc_res
 have hbl := build_res
 have n0 : (E != 0) = true := by simpa using h0
 have HE := Lib.hid hE
 clear hE h0
 have hbx := boxes5 w #[.slice a n c, .int .i64 k] #[.int .i64 fk, .int .i64 fa] #[.int .i64 cm.a, .int .i64 cm.b, .int .i64 cm.c, .int .i64 cm.d, .int .i64 cm.e] vs zero33 131 133 135 80 138
 dsimp only at hbx
 rw [show rgA zero33 = #[.slice none 0 0, .int .i64 0, .slice none 0 0, .slice none 0 0, .slice none 0 0, .slice none 0 0, .slice none 0 0, .slice none 0 0, .slice none 0 0, .slice none 0 0, .slice none 0 0, .slice none 0 0, .slice none 0 0, .slice none 0 0, .slice none 0 0, .slice none 0 0, .slice none 0 0, .slice none 0 0, .slice none 0 0, .slice none 0 0, .slice none 0 0, .slice none 0 0, .slice none 0 0, .slice none 0 0, .slice none 0 0, .slice none 0 0, .slice none 0 0, .slice none 0 0, .slice none 0 0, .int .i64 0, .int .i64 0, .int .i64 0, .slice none 0 0] from rfl] at hbx
 go_enter Try.func84, Try.ntmps84
 go_upto_region 1 with fail
 generalize (((((w.alloc (.cells #[.slice a n c, .int .i64 k] 131)).alloc (.cells (rgA vs) 133)).alloc (.cells #[.int .i64 fk, .int .i64 fa] 135)).alloc (.cells #[.int .i64 cm.a, .int .i64 cm.b, .int .i64 cm.c, .int .i64 cm.d, .int .i64 cm.e] 80)).alloc (.cells #[.slice none 0 0, .int .i64 0, .slice none 0 0, .slice none 0 0, .slice none 0 0, .slice none 0 0, .slice none 0 0, .slice none 0 0, .slice none 0 0, .slice none 0 0, .slice none 0 0, .slice none 0 0, .slice none 0 0, .slice none 0 0, .slice none 0 0, .slice none 0 0, .slice none 0 0, .slice none 0 0, .slice none 0 0, .slice none 0 0, .slice none 0 0, .slice none 0 0, .slice none 0 0, .slice none 0 0, .slice none 0 0, .slice none 0 0, .slice none 0 0, .slice none 0 0, .slice none 0 0, .int .i64 0, .int .i64 0, .int .i64 0, .slice none 0 0] 138)) = w5 at *
 obtain ⟨hLn, hRg, hFd, hCm, hZ, hbw, hsz⟩ := hbx
 obtain ⟨l0, l1, -, -⟩ := hLn.two
 go_wp2_with (first | (go_at_call 89; go_loud (refine (ref_lineErr a n c k _).mono ?_; rintro e w8 ⟨rfl, hb8⟩; rw [HE.out]; have hZ8 := hZ.below hb8 hZ.lt; have HB8 := Lib.hid (hbw.trans (hb8.mono (by omega))); have hC8 := hCm.below hb8 hCm.lt; obtain ⟨d0, d1, d2, d3, d4⟩ := Blk.five hC8; have hF8 := hFd.below hb8 hFd.lt; obtain ⟨q0, q1, -, -⟩ := Blk.two hF8)) | ((with_reducible show wpList _ _ _ (⟨none, Op.store _ _ _, _, _, _, _⟩ :: _) _ _); go_loud (refine res_store rfl _ _ rfl (w.heap.size + 4) 0 rfl zero33 rfl zero33 _ hZ8 (Nat.le_refl 33) rfl one_zero33 ?_; have hz9 := zero_store hZ8 zero33_len HB8.out (by omega) zero33 rfl; generalize (w8).setCells (w.heap.size + 4) 0 zero33 = w9 at hz9 ⊢)))
 exact bodyPost_ret (results_ct Try.results84 rfl (res_loadVar hz9.1 zero33_len)) rfl ⟨zero33, rfl, rsI_zero _ _ _, hz9.2⟩
set_option maxRecDepth 100000 in
set_option maxHeartbeats 4000000 in
theorem ref_do_cnt (a : Option Addr) (n c : Nat) (k fk fa : Int) (vs : List Value) (cm : C5) (w : World) (hE : lnE n k = 0) (h0 : cm.a < 0 ∨ 999 < cm.a ∨ ¬ (fk = 0 ∨ fiB fk = true)) :
  Calls Try.prog 84 #[.agg #[.slice a n c, .int .i64 k], .agg (rgA vs), .agg #[.int .i64 fk, .int .i64 fa], .agg #[.int .i64 cm.a, .int .i64 cm.b, .int .i64 cm.c, .int .i64 cm.d, .int .i64 cm.e]] w (DoPost 1 (zSt cm) w) := by
 have hal := alloc_res
 have hbl := build_res
 have HE := Lib.hid hE
 clear hE
 have hbx := boxes5 w #[.slice a n c, .int .i64 k] #[.int .i64 fk, .int .i64 fa] #[.int .i64 cm.a, .int .i64 cm.b, .int .i64 cm.c, .int .i64 cm.d, .int .i64 cm.e] vs zero33 131 133 135 80 138
 dsimp only at hbx
 rw [show rgA zero33 = #[.slice none 0 0, .int .i64 0, .slice none 0 0, .slice none 0 0, .slice none 0 0, .slice none 0 0, .slice none 0 0, .slice none 0 0, .slice none 0 0, .slice none 0 0, .slice none 0 0, .slice none 0 0, .slice none 0 0, .slice none 0 0, .slice none 0 0, .slice none 0 0, .slice none 0 0, .slice none 0 0, .slice none 0 0, .slice none 0 0, .slice none 0 0, .slice none 0 0, .slice none 0 0, .slice none 0 0, .slice none 0 0, .slice none 0 0, .slice none 0 0, .slice none 0 0, .slice none 0 0, .int .i64 0, .int .i64 0, .int .i64 0, .slice none 0 0] from rfl] at hbx
 have h3 : cm.a < 0 ∨ 0 ≤ cm.a ∧ 999 < cm.a ∨ 0 ≤ cm.a ∧ cm.a ≤ 999 ∧ fk ≠ 0 ∧ fiB fk = false := by
  rcases h0 with h | h | h
  ·exact .inl h
  ·exact .inr (.inl ⟨by omega, h⟩)
  ·by_cases h1 : cm.a < 0
   ·exact .inl h1
   ·by_cases h2 : 999 < cm.a
    ·exact .inr (.inl ⟨by omega, h2⟩)
    ·exact .inr (.inr ⟨by omega, by omega, fun e => h (.inl e), by cases hf : fiB fk with | false => rfl | true => exact absurd (.inr hf) h⟩)
 clear h0
 rcases h3 with h3 | ⟨h2, h3⟩ | ⟨h2, h3, h4, h5⟩
 ·go_enter Try.func84, Try.ntmps84
  go_upto_region 1 with fail
  generalize (((((w.alloc (.cells #[.slice a n c, .int .i64 k] 131)).alloc (.cells (rgA vs) 133)).alloc (.cells #[.int .i64 fk, .int .i64 fa] 135)).alloc (.cells #[.int .i64 cm.a, .int .i64 cm.b, .int .i64 cm.c, .int .i64 cm.d, .int .i64 cm.e] 80)).alloc (.cells #[.slice none 0 0, .int .i64 0, .slice none 0 0, .slice none 0 0, .slice none 0 0, .slice none 0 0, .slice none 0 0, .slice none 0 0, .slice none 0 0, .slice none 0 0, .slice none 0 0, .slice none 0 0, .slice none 0 0, .slice none 0 0, .slice none 0 0, .slice none 0 0, .slice none 0 0, .slice none 0 0, .slice none 0 0, .slice none 0 0, .slice none 0 0, .slice none 0 0, .slice none 0 0, .slice none 0 0, .slice none 0 0, .slice none 0 0, .slice none 0 0, .slice none 0 0, .slice none 0 0, .int .i64 0, .int .i64 0, .int .i64 0, .slice none 0 0] 138)) = w5 at *
  obtain ⟨hLn, hRg, hFd, hCm, hZ, hbw, hsz⟩ := hbx
  obtain ⟨l0, l1, -, -⟩ := hLn.two
  go_wp2_with (first | (go_at_call 89; go_loud (refine (ref_lineErr a n c k _).mono ?_; rintro e w8 ⟨rfl, hb8⟩; rw [HE.out]; have hZ8 := hZ.below hb8 hZ.lt; have HB8 := Lib.hid (hbw.trans (hb8.mono (by omega))); have hC8 := hCm.below hb8 hCm.lt; obtain ⟨d0, d1, d2, d3, d4⟩ := Blk.five hC8; have hF8 := hFd.below hb8 hFd.lt; obtain ⟨q0, q1, -, -⟩ := Blk.two hF8)) | ((with_reducible show wpList _ _ _ (⟨none, Op.store _ _ _, _, _, _, _⟩ :: _) _ _); go_loud (refine res_store rfl _ _ rfl (w.heap.size + 4) 0 rfl zero33 rfl zero33 _ hZ8 (Nat.le_refl 33) rfl one_zero33 ?_; have hz9 := zero_store hZ8 zero33_len HB8.out (by omega) zero33 rfl; generalize (w8).setCells (w.heap.size + 4) 0 zero33 = w9 at hz9 ⊢)))
  exact bodyPost_ret (results_ct Try.results84 rfl (res_loadVar hz9.1 zero33_len)) rfl ⟨zero33, rfl, rsI_zero _ _ _, hz9.2⟩
 ·go_enter Try.func84, Try.ntmps84
  go_upto_region 1 with fail
  generalize (((((w.alloc (.cells #[.slice a n c, .int .i64 k] 131)).alloc (.cells (rgA vs) 133)).alloc (.cells #[.int .i64 fk, .int .i64 fa] 135)).alloc (.cells #[.int .i64 cm.a, .int .i64 cm.b, .int .i64 cm.c, .int .i64 cm.d, .int .i64 cm.e] 80)).alloc (.cells #[.slice none 0 0, .int .i64 0, .slice none 0 0, .slice none 0 0, .slice none 0 0, .slice none 0 0, .slice none 0 0, .slice none 0 0, .slice none 0 0, .slice none 0 0, .slice none 0 0, .slice none 0 0, .slice none 0 0, .slice none 0 0, .slice none 0 0, .slice none 0 0, .slice none 0 0, .slice none 0 0, .slice none 0 0, .slice none 0 0, .slice none 0 0, .slice none 0 0, .slice none 0 0, .slice none 0 0, .slice none 0 0, .slice none 0 0, .slice none 0 0, .slice none 0 0, .slice none 0 0, .int .i64 0, .int .i64 0, .int .i64 0, .slice none 0 0] 138)) = w5 at *
  obtain ⟨hLn, hRg, hFd, hCm, hZ, hbw, hsz⟩ := hbx
  obtain ⟨l0, l1, -, -⟩ := hLn.two
  go_wp2_with (first | (go_at_call 89; go_loud (refine (ref_lineErr a n c k _).mono ?_; rintro e w8 ⟨rfl, hb8⟩; rw [HE.out]; have hZ8 := hZ.below hb8 hZ.lt; have HB8 := Lib.hid (hbw.trans (hb8.mono (by omega))); have hC8 := hCm.below hb8 hCm.lt; obtain ⟨d0, d1, d2, d3, d4⟩ := Blk.five hC8; have hF8 := hFd.below hb8 hFd.lt; obtain ⟨q0, q1, -, -⟩ := Blk.two hF8)) | ((with_reducible show wpList _ _ _ (⟨none, Op.store _ _ _, _, _, _, _⟩ :: _) _ _); go_loud (refine res_store rfl _ _ rfl (w.heap.size + 4) 0 rfl zero33 rfl zero33 _ hZ8 (Nat.le_refl 33) rfl one_zero33 ?_; have hz9 := zero_store hZ8 zero33_len HB8.out (by omega) zero33 rfl; generalize (w8).setCells (w.heap.size + 4) 0 zero33 = w9 at hz9 ⊢)))
  exact bodyPost_ret (results_ct Try.results84 rfl (res_loadVar hz9.1 zero33_len)) rfl ⟨zero33, rfl, rsI_zero _ _ _, hz9.2⟩
 ·have xf : (fk != 0) = true := by simpa using h4
  have HFI := Lib.hid h5
  clear h4 h5
  go_enter Try.func84, Try.ntmps84
  go_upto_region 1 with fail
  generalize (((((w.alloc (.cells #[.slice a n c, .int .i64 k] 131)).alloc (.cells (rgA vs) 133)).alloc (.cells #[.int .i64 fk, .int .i64 fa] 135)).alloc (.cells #[.int .i64 cm.a, .int .i64 cm.b, .int .i64 cm.c, .int .i64 cm.d, .int .i64 cm.e] 80)).alloc (.cells #[.slice none 0 0, .int .i64 0, .slice none 0 0, .slice none 0 0, .slice none 0 0, .slice none 0 0, .slice none 0 0, .slice none 0 0, .slice none 0 0, .slice none 0 0, .slice none 0 0, .slice none 0 0, .slice none 0 0, .slice none 0 0, .slice none 0 0, .slice none 0 0, .slice none 0 0, .slice none 0 0, .slice none 0 0, .slice none 0 0, .slice none 0 0, .slice none 0 0, .slice none 0 0, .slice none 0 0, .slice none 0 0, .slice none 0 0, .slice none 0 0, .slice none 0 0, .slice none 0 0, .int .i64 0, .int .i64 0, .int .i64 0, .slice none 0 0] 138)) = w5 at *
  obtain ⟨hLn, hRg, hFd, hCm, hZ, hbw, hsz⟩ := hbx
  obtain ⟨l0, l1, -, -⟩ := hLn.two
  go_upto_region 4 with (go_at_call 89; go_loud (refine (ref_lineErr a n c k _).mono ?_; rintro e w8 ⟨rfl, hb8⟩; rw [HE.out]; have hZ8 := hZ.below hb8 hZ.lt; have HB8 := Lib.hid (hbw.trans (hb8.mono (by omega))); have hC8 := hCm.below hb8 hCm.lt; obtain ⟨d0, d1, d2, d3, d4⟩ := Blk.five hC8; have hF8 := hFd.below hb8 hFd.lt; obtain ⟨q0, q1, -, -⟩ := Blk.two hF8))
  go_cut [41] (fun v wx => v = .bool true ∧ Below w8.heap.size w8 wx)
  case first =>
   go_wp2_with (go_at_call 141; go_loud (refine (ref_isFind fk _).mono ?_; rintro e w9 ⟨rfl, hb9⟩; rw [HFI.out]))
   go_meet
   exact ⟨by first | rfl | (rw [decide_eq_false (by omega), decide_eq_false (by omega)]; rfl), hb9⟩
  obtain ⟨rfl, hb1⟩ := hcut
  have hZ7 := hZ8.below hb1 hZ8.lt
  have HB7 := Lib.hid (HB8.out.trans (hb1.mono HB8.out.size))
  clear d0 d1 d2 d3 d4 q0 q1 l0 l1
  go_wp2_with ((with_reducible show wpList _ _ _ (⟨none, Op.store _ _ _, _, _, _, _⟩ :: _) _ _); go_loud (refine res_store rfl _ _ rfl (w.heap.size + 4) 0 rfl zero33 rfl zero33 _ hZ7 (Nat.le_refl 33) rfl one_zero33 ?_; have hz9 := zero_store hZ7 zero33_len HB7.out (by omega) zero33 rfl; generalize (wc).setCells (w.heap.size + 4) 0 zero33 = w9 at hz9 ⊢))
  exact bodyPost_ret (results_ct Try.results84 rfl (res_loadVar hz9.1 zero33_len)) rfl ⟨zero33, rfl, rsI_zero _ _ _, hz9.2⟩
set_option maxRecDepth 100000 in
set_option maxHeartbeats 4000000 in
theorem ref_do_nine (a : Option Addr) (n c : Nat) (k fk fa : Int) (vs : List Value) (cm : C5) (w : World) (hE : lnE n k = 0) (h0 : 0 ≤ cm.a) (h1 : cm.a ≤ 999) (hf : fk = 0 ∨ fiB fk = true) (h9 : opOk cm.c = false) :
  Calls Try.prog 84 #[.agg #[.slice a n c, .int .i64 k], .agg (rgA vs), .agg #[.int .i64 fk, .int .i64 fa], .agg #[.int .i64 cm.a, .int .i64 cm.b, .int .i64 cm.c, .int .i64 cm.d, .int .i64 cm.e]] w (DoPost 9 (zSt cm) w) := by
 have hal := alloc_res
 have hbl := build_res
 have HE := Lib.hid hE
 have HF := Lib.hid hf
 have h9' : ¬ (cm.c = 0 ∨ cm.c = 100 ∨ cm.c = 99 ∨ cm.c = 121) := by simpa [opOk] using h9
 have x0 : (cm.c != 0) = true := by simp; omega
 have HIN := Lib.hid (show inB cm.c ⟨#[100, 99, 121]⟩ = false by
  cases h : inB cm.c ⟨#[100, 99, 121]⟩ with
  | false => rfl
  | true => exact absurd (by simpa using (inB_mem _ _).1 h) (show ¬ (cm.c = 100 ∨ cm.c = 99 ∨ cm.c = 121) by omega))
 clear hE hf h9 h9'
 have hbx := boxes5 w #[.slice a n c, .int .i64 k] #[.int .i64 fk, .int .i64 fa] #[.int .i64 cm.a, .int .i64 cm.b, .int .i64 cm.c, .int .i64 cm.d, .int .i64 cm.e] vs zero33 131 133 135 80 138
 dsimp only at hbx
 rw [show rgA zero33 = #[.slice none 0 0, .int .i64 0, .slice none 0 0, .slice none 0 0, .slice none 0 0, .slice none 0 0, .slice none 0 0, .slice none 0 0, .slice none 0 0, .slice none 0 0, .slice none 0 0, .slice none 0 0, .slice none 0 0, .slice none 0 0, .slice none 0 0, .slice none 0 0, .slice none 0 0, .slice none 0 0, .slice none 0 0, .slice none 0 0, .slice none 0 0, .slice none 0 0, .slice none 0 0, .slice none 0 0, .slice none 0 0, .slice none 0 0, .slice none 0 0, .slice none 0 0, .slice none 0 0, .int .i64 0, .int .i64 0, .int .i64 0, .slice none 0 0] from rfl] at hbx
 go_enter Try.func84, Try.ntmps84
 go_upto_region 1 with fail
 generalize (((((w.alloc (.cells #[.slice a n c, .int .i64 k] 131)).alloc (.cells (rgA vs) 133)).alloc (.cells #[.int .i64 fk, .int .i64 fa] 135)).alloc (.cells #[.int .i64 cm.a, .int .i64 cm.b, .int .i64 cm.c, .int .i64 cm.d, .int .i64 cm.e] 80)).alloc (.cells #[.slice none 0 0, .int .i64 0, .slice none 0 0, .slice none 0 0, .slice none 0 0, .slice none 0 0, .slice none 0 0, .slice none 0 0, .slice none 0 0, .slice none 0 0, .slice none 0 0, .slice none 0 0, .slice none 0 0, .slice none 0 0, .slice none 0 0, .slice none 0 0, .slice none 0 0, .slice none 0 0, .slice none 0 0, .slice none 0 0, .slice none 0 0, .slice none 0 0, .slice none 0 0, .slice none 0 0, .slice none 0 0, .slice none 0 0, .slice none 0 0, .slice none 0 0, .slice none 0 0, .int .i64 0, .int .i64 0, .int .i64 0, .slice none 0 0] 138)) = w5 at *
 obtain ⟨hLn, hRg, hFd, hCm, hZ, hbw, hsz⟩ := hbx
 obtain ⟨l0, l1, -, -⟩ := hLn.two
 go_upto_region 4 with (go_at_call 89; go_loud (refine (ref_lineErr a n c k _).mono ?_; rintro e w8 ⟨rfl, hb8⟩; rw [HE.out]; have hZ8 := hZ.below hb8 hZ.lt; have HB8 := Lib.hid (hbw.trans (hb8.mono (by omega))); have hC8 := hCm.below hb8 hCm.lt; obtain ⟨d0, d1, d2, d3, d4⟩ := Blk.five hC8; have hF8 := hFd.below hb8 hFd.lt; obtain ⟨q0, q1, -, -⟩ := Blk.two hF8))
 go_cut [41] (fun v wx => v = .bool false ∧ Below w8.heap.size w8 wx)
 case first =>
  rcases HF.out with rfl | h
  ·go_wp2
   go_meet
   exact ⟨by rw [decide_eq_false (by omega), decide_eq_false (by omega)]; rfl, Below.refl _ _⟩
  ·have HFI := Lib.hid h
   have xf : (fk != 0) = true := by
    have : fk = 102 ∨ fk = 70 ∨ fk = 116 ∨ fk = 84 := by simpa [fiB] using h
    simp; omega
   clear h
   go_wp2_with (go_at_call 141; go_loud (refine (ref_isFind fk _).mono ?_; rintro e w9 ⟨rfl, hb9⟩; rw [HFI.out]))
   go_meet
   exact ⟨by rw [decide_eq_false (by omega), decide_eq_false (by omega)]; rfl, hb9⟩
 obtain ⟨rfl, hb1⟩ := hcut
 have hZ7 := hZ8.below hb1 hZ8.lt
 have HB7 := Lib.hid (HB8.out.trans (hb1.mono HB8.out.size))
 have hC7 := hC8.below hb1 hC8.lt
 clear d0 d1 d2 d3 d4 q0 q1 l0 l1
 obtain ⟨d0, d1, d2, d3, d4⟩ := Blk.five hC7
 generalize wc = w7 at *
 go_wp2_with (first | (go_at_call 121; go_loud (refine (ref_in cm.c ⟨#[100, 99, 121]⟩ (by decide) _).mono ?_; rintro e w6 ⟨rfl, hb6⟩; rw [HIN.out]; have hZ6 := hZ7.below hb6 hZ7.lt; have HB6 := Lib.hid (HB7.out.trans (hb6.mono HB7.out.size)))) | ((with_reducible show wpList _ _ _ (⟨none, Op.store _ _ _, _, _, _, _⟩ :: _) _ _); go_loud (refine res_store rfl _ _ rfl (w.heap.size + 4) 0 rfl zero33 rfl zero33 _ hZ6 (Nat.le_refl 33) rfl one_zero33 ?_; have hz9 := zero_store hZ6 zero33_len HB6.out (by omega) zero33 rfl; generalize (w6).setCells (w.heap.size + 4) 0 zero33 = w9 at hz9 ⊢)))
 exact bodyPost_ret (results_ct Try.results84 rfl (res_loadVar hz9.1 zero33_len)) rfl ⟨zero33, rfl, rsI_zero _ _ _, hz9.2⟩
theorem Blk.eqs {w : World} {B : Nat} {u0 u1 u2 : Value} {e : TypeId} (h : Blk w B #[u0, u1, u2] e) : w.cell? ⟨B, 0, none⟩ = some u0 ∧ w.cell? ⟨B, 1, none⟩ = some u1 ∧ w.cell? ⟨B, 2, none⟩ = some u2 ∧ w.frozen? ⟨B, 0, none⟩ = false ∧ w.frozen? ⟨B, 1, none⟩ = false ∧ w.frozen? ⟨B, 2, none⟩ = false := ⟨h.cell 0, h.cell 1, h.cell 2, h.free 0, h.free 1, h.free 2⟩
set_option maxRecDepth 100000 in
set_option maxHeartbeats 4000000 in
theorem ref_do_mn (I : In) (hI : InOk I) (fk fa : Int) (cm0 cm : C5) (hcm : lgC cm0 = cm) (hc0 : 0 ≤ cm0.a) (hc1 : cm0.a ≤ 999) (hf : fk = 0 ∨ fiB fk = true) (hop : opOk cm0.c = true) (hc : cm.c = 0) (hd : motB cm.d = true) (mk mg er : Int) (hz : er ≠ 0) (hmt : ∀ w1, Calls Try.prog 145 #[.agg #[.int .i64 fk, .int .i64 fa], .agg #[.int .i64 cm.a, .int .i64 cm.b, .int .i64 cm.c, .int .i64 cm.d, .int .i64 cm.e]] w1 (MtPost mk cm.a mg er w1)) :
  Calls Try.prog 84 #[.agg #[.slice I.a I.n I.c, .int .i64 (I.k : Int)], .agg (rgA I.vs), .agg #[.int .i64 fk, .int .i64 fa], .agg #[.int .i64 cm0.a, .int .i64 cm0.b, .int .i64 cm0.c, .int .i64 cm0.d, .int .i64 cm0.e]] I.w0 (ResPost I (er) (if er = 0 then { (⟨cm, I.t, I.k, I.X, fk, fa, 0, []⟩ : St) with es := btF I.t I.t } else zSt cm) I.w0) := by
 have hE : lnE I.n I.k = 0 := by
  have := hI.top; have := hI.k1
  unfold lnE
  rw [if_neg (by omega), if_neg (by omega)]
 have HE := Lib.hid hE
 have HI := Lib.hid hI
 have hlv := hI.rgs.lv
 have HR := Lib.hid hI.rgs
 have HT := Lib.hid (show I.t.length = I.n from hI.len)
 have htop := hI.top
 have HTi := Lib.hid hI.ints
 have HN0 := Lib.hid hI.none
 have hcap := hI.cap; have hcap2 := hI.cap2
 have HCM := Lib.hid hcm
 have HF := Lib.hid hf
 have hos : cm0.c = 0 ∨ cm0.c = 100 ∨ cm0.c = 99 ∨ cm0.c = 121 := by simpa [opOk] using hop
 have HOS := Lib.hid hos
 clear hE hI hcm hf hop hos
 have HOL := Lib.hid (show er = 0 → I.t.length ≤ 4096 from fun _ => by rw [HT.out]; omega)
 have x0 : (cm.c != 0) = false := by simpa using hc
 have HD := Lib.hid hd
 have HMT := Lib.hid hmt
 clear hc hd hmt
 have n0 : (er == 0) = false := by simpa using hz
 clear hz
 obtain ⟨sF, hsF⟩ : ∃ sF, (if er = 0 then { (⟨cm, I.t, I.k, I.X, fk, fa, 0, []⟩ : St) with es := btF I.t I.t } else zSt cm) = sF := ⟨_, rfl⟩
 rw [hsF]
 have HSF := Lib.hid hsF
 clear hsF
 obtain ⟨w, a, n, c, t, k, vs, X⟩ := I
 dsimp only at *
 have hone : ∀ v ∈ resL (.slice a n c) (k : Int) vs fk fa, v.oneCell' = true := resL_one HR.out
 have hbx := boxes5 w #[.slice a n c, .int .i64 (k : Int)] #[.int .i64 fk, .int .i64 fa] #[.int .i64 cm0.a, .int .i64 cm0.b, .int .i64 cm0.c, .int .i64 cm0.d, .int .i64 cm0.e] vs zero33 131 133 135 80 138
 dsimp only at hbx
 rw [show rgA zero33 = #[.slice none 0 0, .int .i64 0, .slice none 0 0, .slice none 0 0, .slice none 0 0, .slice none 0 0, .slice none 0 0, .slice none 0 0, .slice none 0 0, .slice none 0 0, .slice none 0 0, .slice none 0 0, .slice none 0 0, .slice none 0 0, .slice none 0 0, .slice none 0 0, .slice none 0 0, .slice none 0 0, .slice none 0 0, .slice none 0 0, .slice none 0 0, .slice none 0 0, .slice none 0 0, .slice none 0 0, .slice none 0 0, .slice none 0 0, .slice none 0 0, .slice none 0 0, .slice none 0 0, .int .i64 0, .int .i64 0, .int .i64 0, .slice none 0 0] from rfl] at hbx
 go_enter Try.func84, Try.ntmps84
 go_upto_region 1 with fail
 generalize (((((w.alloc (.cells #[.slice a n c, .int .i64 (k : Int)] 131)).alloc (.cells (rgA vs) 133)).alloc (.cells #[.int .i64 fk, .int .i64 fa] 135)).alloc (.cells #[.int .i64 cm0.a, .int .i64 cm0.b, .int .i64 cm0.c, .int .i64 cm0.d, .int .i64 cm0.e] 80)).alloc (.cells #[.slice none 0 0, .int .i64 0, .slice none 0 0, .slice none 0 0, .slice none 0 0, .slice none 0 0, .slice none 0 0, .slice none 0 0, .slice none 0 0, .slice none 0 0, .slice none 0 0, .slice none 0 0, .slice none 0 0, .slice none 0 0, .slice none 0 0, .slice none 0 0, .slice none 0 0, .slice none 0 0, .slice none 0 0, .slice none 0 0, .slice none 0 0, .slice none 0 0, .slice none 0 0, .slice none 0 0, .slice none 0 0, .slice none 0 0, .slice none 0 0, .slice none 0 0, .slice none 0 0, .int .i64 0, .int .i64 0, .int .i64 0, .slice none 0 0] 138)) = w5 at *
 obtain ⟨hLn, hRg, hFd, hCm, hZ, hbw, hsz⟩ := hbx
 obtain ⟨l0, l1, -, -⟩ := hLn.two
 go_upto_region 4 with (first | (go_at_call 89; go_loud (refine (ref_lineErr a n c (k : Int) _).mono ?_; rintro e w8 ⟨rfl, hb8⟩; rw [HE.out]; have hZ8 := hZ.below hb8 hZ.lt; have HB8 := Lib.hid (hbw.trans (hb8.mono (by omega))); have hC8 := hCm.below hb8 hCm.lt; obtain ⟨d0, d1, d2, d3, d4⟩ := Blk.five hC8; have hLn8 := hLn.below hb8 hLn.lt; have hRg8 := hRg.below hb8 hRg.lt; have hFd8 := hFd.below hb8 hFd.lt; obtain ⟨q0, q1, -, -⟩ := Blk.two hFd8)))
 have HZ8 := Lib.hid hZ8; have HC8 := Lib.hid hC8; have HL8 := Lib.hid hLn8; have HR8 := Lib.hid hRg8; have HF8 := Lib.hid hFd8
 clear hZ hCm hLn hRg hFd hZ8 hC8 hLn8 hRg8 hFd8 l0 l1
 have hw8 : w.heap.size + 5 ≤ w8.heap.size := by have := hb8.size; omega
 clear hb8 hbw
 go_cut [41] (fun v wx => v = .bool false ∧ Below w8.heap.size w8 wx)
 case first =>
  rcases HF.out with rfl | h
  ·go_wp2
   go_meet
   exact ⟨by rw [decide_eq_false (by omega), decide_eq_false (by omega)]; rfl, Below.refl _ _⟩
  ·have HFI := Lib.hid h
   have xf : (fk != 0) = true := by
    have : fk = 102 ∨ fk = 70 ∨ fk = 116 ∨ fk = 84 := by simpa [fiB] using h
    simp; omega
   clear h
   go_wp2_with (go_at_call 141; go_loud (refine (ref_isFind fk _).mono ?_; rintro e w9 ⟨rfl, hb9⟩; rw [HFI.out]))
   go_meet
   exact ⟨by rw [decide_eq_false (by omega), decide_eq_false (by omega)]; rfl, hb9⟩
 obtain ⟨rfl, hb1⟩ := hcut
 clear d0 d1 d2 d3 d4 q0 q1
 obtain ⟨d0, d1, d2, d3, d4⟩ := Blk.five (HC8.out.below hb1 HC8.out.lt)
 go_upto_region 6 with fail
 go_cut [51] (fun v wx => v = .bool false ∧ Below w8.heap.size w8 wx)
 case first =>
  rcases HOS.out with e | e | e | e
  ·have x0 : (cm0.c != 0) = false := by rw [e]; rfl
   clear e
   go_wp2
   go_meet
   exact ⟨rfl, hb1⟩
  all_goals
   have x0 : (cm0.c != 0) = true := by rw [e]; rfl
   have HIN := Lib.hid (show inB cm0.c ⟨#[100, 99, 121]⟩ = true by rw [e]; rfl)
   clear e
   go_wp2_with (go_at_call 121; go_loud (refine (ref_in cm0.c ⟨#[100, 99, 121]⟩ (by decide) _).mono ?_; rintro e w9 ⟨rfl, hb9⟩; rw [HIN.out]))
   go_meet
   exact ⟨rfl, hb1.trans (hb9.mono hb1.size)⟩
 obtain ⟨rfl, hb2⟩ := hcut
 clear d0 d1 d2 d3 d4 hb1
 have hC2 := HC8.out.below hb2 HC8.out.lt
 obtain ⟨d0, d1, d2, d3, d4⟩ := Blk.five hC2
 go_upto_region 8 with fail
 go_cut [9] (fun v wx => v = .int .i64 0 ∧ Blk wx (w.heap.size + 3) #[.int .i64 cm.a, .int .i64 cm.b, .int .i64 cm.c, .int .i64 cm.d, .int .i64 cm.e] 80 ∧ Asd (w.heap.size + 3) w8 wx ∧ Below w.heap.size w wx)
 case first =>
  go_wp2_with (go_at_call 142; go_loud (refine (ref_long cm0 _).mono ?_; rintro e w9 ⟨rfl, hb9⟩; rw [HCM.out, c5_v]; have hC9 := hC2.below hb9 hC2.lt; clear d0 d1 d2 d3 d4; obtain ⟨d0, d1, d2, d3, d4⟩ := Blk.five hC9; have f0 := hC9.free 0; have f1 := hC9.free 1; have f2 := hC9.free 2; have f3 := hC9.free 3; have f4 := hC9.free 4))
  go_meet
  exact ⟨rfl, ((((hC9.set 0 _).set 1 _).set 2 _).set 3 _).set 4 _, (((((Asd.of hb2).trans (Asd.of hb9)).trans (Asd.set _)).trans (Asd.set _)).trans (Asd.set _)).trans (Asd.set _) |>.trans (Asd.set _), ((((((HB8.out.trans (hb2.mono HB8.out.size)).trans (hb9.mono (Nat.le_trans HB8.out.size hb2.size))).setCell (p := ⟨w.heap.size + 3, 0, none⟩) (Nat.le_add_right _ 3) _).setCell (p := ⟨w.heap.size + 3, 1, none⟩) (Nat.le_add_right _ 3) _).setCell (p := ⟨w.heap.size + 3, 2, none⟩) (Nat.le_add_right _ 3) _).setCell (p := ⟨w.heap.size + 3, 3, none⟩) (Nat.le_add_right _ 3) _).setCell (p := ⟨w.heap.size + 3, 4, none⟩) (Nat.le_add_right _ 3) _⟩
 obtain ⟨rfl, hC3, hA3, hB3⟩ := hcut
 clear d0 d1 d2 d3 d4 hC2 hb2
 have hL3 := hA3.blk (B := w.heap.size) (by omega) HL8.out
 have hR3 : BlkR wc (w.heap.size + 1) vs 133 := hA3.blk (B := w.heap.size + 1) (by omega) HR8.out
 have hF3 := hA3.blk (B := w.heap.size + 2) (by omega) HF8.out
 have hZ3 : BlkR wc (w.heap.size + 4) zero33 138 := hA3.blk (B := w.heap.size + 4) (by omega) HZ8.out
 obtain ⟨l0, l1, -, -⟩ := Blk.two hL3
 obtain ⟨q0, q1, -, -⟩ := Blk.two hF3
 obtain ⟨d0, d1, d2, d3, d4⟩ := Blk.five hC3
 have hw3 : w.heap.size + 5 ≤ wc.heap.size := Nat.le_trans hw8 hA3.size
 clear hA3 HL8 HR8 HF8 HZ8 HC8 HB8 hw8 hsz
 generalize wc = w3 at *
 go_upto_region 10 with (first | (refine regs_load rfl _ rfl (w.heap.size + 1) rfl vs _ hR3 hlv ?_) | ((with_reducible show wpList _ _ _ (⟨_, Op.build _ _, _, _, _, _⟩ :: _) _ _); refine resL_build rfl _ _ _ rfl a n c (k : Int) fk fa vs rfl rfl rfl hlv ?_) | ((with_reducible show wpList _ _ _ (⟨none, Op.store _ _ _, _, _, _, _⟩ :: _) _ _); go_loud (refine res_store rfl _ _ rfl w3.heap.size 0 rfl (resL (.slice a n c) (k : Int) vs fk fa) rfl zero33 _ (BlkR.new w3 zero33 138) (Nat.le_refl 33) (resL_len hlv) hone ?_; change wpList _ _ _ _ _ ((w3.alloc (.cells (rgA zero33) 138)).setCells w3.heap.size 0 (resL (.slice a n c) (k : Int) vs fk fa)); have hz9 := zero_store (w := w3) (BlkR.new w3 zero33 138) zero33_len (below1 w3 _) (Nat.le_refl _) (resL (.slice a n c) (k : Int) vs fk fa) (resL_len hlv); generalize ((w3.alloc (.cells (rgA zero33) 138)).setCells w3.heap.size 0 (resL (.slice a n c) (k : Int) vs fk fa)) = w9 at hz9 ⊢)))
 have hL9 : Blk w9 w.heap.size #[.slice a n c, .int .i64 (k : Int)] 131 := hL3.below hz9.2 hL3.lt
 have hR9 := hR3.below hz9.2 hR3.lt
 have hF9 := hF3.below hz9.2 hF3.lt
 have hC9 := hC3.below hz9.2 hC3.lt
 have hZ9 := hZ3.below hz9.2 hZ3.lt
 have hb9 := hB3.trans (hz9.2.mono hB3.size)
 have h9 := rb_new HI.out cm hz9.1 hb9 hB3.size
 dsimp only at h9
 have hP5 : w.heap.size + 4 < w3.heap.size := by omega
 have hP9 : w3.heap.size < w9.heap.size := hz9.1.lt
 clear hL3 hR3 hF3 hC3 hZ3 d0 d1 d2 d3 d4 l0 l1 q0 q1 hB3 hz9 hone hw3
 generalize w3.heap.size = P at *
 have HZ9 := Lib.hid hZ9; have HC9 := Lib.hid hC9; have HR9 := Lib.hid hR9; have HL9 := Lib.hid hL9; have HF9 := Lib.hid hF9; have H9 := Lib.hid h9
 obtain ⟨l0, l1, -, -⟩ := Blk.two hL9
 obtain ⟨q0, q1, -, -⟩ := Blk.two hF9
 obtain ⟨d0, d1, d2, d3, d4⟩ := Blk.five hC9
 clear hL9 hC9 hZ9 h9 hF9
 simp only [Act.put, List.setIfInBounds_toArray, List.set_cons_zero, List.set_cons_succ]
 go_upto_block 0 with fail
 go_cut [12] (fun v wx => v = .int .i64 er ∧ (∃ us, RB ⟨w, a, n, c, t, k, vs, X⟩ P wx us ⟨cm, t, k, X, fk, fa, 0, []⟩) ∧ Asd P w9 wx)
 case first =>
  go_upto_region 16 with (go_at_call 144; go_loud (refine (ref_isMotion cm.d _).mono ?_; rintro e w4 ⟨rfl, hb4⟩; rw [HD.out]; clear l0 l1 q0 q1 d0 d1 d2 d3 d4))
  have hM := Blk.new w4 #[.int .i64 0, .int .i64 0, .int .i64 0] 227
  have hb45 := below1 w4 (.cells #[.int .i64 0, .int .i64 0, .int .i64 0] 227)
  have hPM : P < w4.heap.size := Nat.lt_of_lt_of_le hP9 hb4.size
  have HPM9 := Lib.hid hb4.size
  generalize w4.alloc (.cells #[.int .i64 0, .int .i64 0, .int .i64 0] 227) = w5 at *
  have hb5 := hb4.trans (hb45.mono hb4.size)
  have hF5 := HF9.out.below hb5 HF9.out.lt
  have hC5 := HC9.out.below hb5 HC9.out.lt
  obtain ⟨q0, q1, -, -⟩ := Blk.two hF5
  obtain ⟨d0, d1, d2, d3, d4⟩ := Blk.five hC5
  have hM5 := hM.lt
  generalize w4.heap.size = M at *
  have HB5 := Lib.hid hb5; have HB45 := Lib.hid hb45
  clear hb4 hb5 hb45 hF5 hC5
  go_cut [12] (fun v wx => v = .int .i64 (er) ∧ Blk wx M #[.int .i64 mk, .int .i64 cm.a, .int .i64 mg] 227 ∧ Below M w5 wx)
  case first =>
   go_wp2_with (go_at_call 145; go_loud (refine (HMT.out _).mono ?_; rintro e w6 ⟨rfl, hb6⟩; have hM6 := hM.below hb6 hM5; obtain ⟨y0, y1, y2, z0, z1, z2⟩ := Blk.eqs hM6))
   go_meet
   exact ⟨rfl, ((hM6.set 0 _).set 1 _).set 2 _, (((hb6.mono (Nat.le_of_lt hM5)).setCell (p := ⟨M, 0, none⟩) (Nat.le_refl M) _).setCell (p := ⟨M, 1, none⟩) (Nat.le_refl M) _).setCell (p := ⟨M, 2, none⟩) (Nat.le_refl M) _⟩
  obtain ⟨rfl, hM7, hb57⟩ := hcut
  clear q0 q1 d0 d1 d2 d3 d4
  go_wp2
  go_meet
  exact ⟨rfl, ⟨_, H9.out.to (HB5.out.trans (hb57.mono HPM9.out))⟩, Asd.of (HB5.out.trans (hb57.mono HPM9.out))⟩
 obtain ⟨rfl, ⟨us3, h3⟩, hA3⟩ := hcut
 clear d0 d1 d2 d3 d4 l0 l1 q0 q1
 have hZ3 := hA3.blk (B := w.heap.size + 4) (by omega) HZ9.out
 obtain ⟨l0, l1, -, -⟩ := Blk.two (hA3.blk (B := w.heap.size) (by omega) HL9.out)
 have HB3 := Lib.hid h3.bel
 by_cases hz : er = 0
 ·obtain ⟨a5, n5, c5, e5⟩ : ∃ a5 n5 c5, vx us3 0 = .slice a5 n5 c5 := by
   obtain ⟨q1, q2, q3, q4, -⟩ := (h3.o.sl HI.out h3.bel); exact ⟨q1, q2, q3, q4⟩
  have hsl := h3.o.sl HI.out h3.bel
  rw [e5] at hsl
  have hg := hsl.get
  have HSL := Lib.hid hg.1
  have hi5 := hg.2.2.2.1
  have hnc := hg.2.1
  have HZN := Lib.hid hg.2.2.2.2
  have e0 := h3.b.cell (i := 0) (by rw [h3.lu]; omega)
  rw [e5] at e0
  have hti := HTi.out.below h3.bel
  have hn5 : n5 ≤ 4096 := by have := HOL.out hz; rw [hg.1] at this; exact this
  have H3 := Lib.hid h3; have HA3 := Lib.hid hA3
  subst hz
  clear hsl hg h3 hA3 e5
  go_wp2_with (first | (go_at_call 148; go_loud (refine (ref_between a a5 n c n5 c5 t _ _ hti hi5 HT.out HSL.out (by omega) hn5 hnc HZN.out).mono ?_; rintro e w10 ⟨v9, ws, es, rfl, so9, hbt, hb9'⟩; obtain ⟨a9, c9, rfl, -, -, -⟩ := so9.form; have h10 := H3.out.to hb9'; have c32 := h10.b.cell (i := 32) (by rw [h10.lu]; omega); have f32 := h10.b.free 32; have h11 := h10.setE _ ws es (so9.mono (Nat.succ_le_of_lt H3.out.b.lt)); have HBT := Lib.hid (btF_eq hbt); have hZ11 := ((HA3.out.trans (Asd.of hb9')).trans (Asd.set (P := P) (i := 32) (.slice a9 es.length c9))).blk (B := w.heap.size + 4) (by omega) HZ9.out; have HB11 := Lib.hid h11.bel; have hl11 := h11.lu; have hg11 := rangeAt_blk h11.b; have ho11 := RsQ.one HI.out h11.rsQ; have hr11 := h11.rsQ.left (left_setCells (w10.setCell ⟨P, 32, none⟩ (.slice a9 es.length c9)) (w.heap.size + 4) 0 (us3.set 32 (.slice a9 es.length c9))) (by omega); clear h10 h11 hbt)) | ((with_reducible show wpList _ _ _ (⟨_, Op.load 138 _, _, _, _, _⟩ :: _) _ _); refine res_load rfl _ rfl P 0 rfl _ hg11 hl11 ?_) | ((with_reducible show wpList _ _ _ (⟨none, Op.store 138 _ _, _, _, _, _⟩ :: _) _ _); revert hl11))
  intro hl11
  have hl12 : (us3.set 32 (.slice a9 es.length c9)).length = 33 := by first | exact hl11 | (rw [List.length_set]; exact hl11)
  refine res_store rfl _ _ rfl (w.heap.size + 4) 0 rfl (us3.set 32 (.slice a9 es.length c9)) rfl zero33 _ hZ11 (Nat.le_refl 33) hl12 ho11 ?_
  have hz9 := zero_store (w := w) hZ11 zero33_len HB11.out (Nat.le_add_right _ 4) (us3.set 32 (.slice a9 es.length c9)) hl12
  generalize (w10.setCell ⟨P, 32, none⟩ (.slice a9 es.length c9)).setCells (w.heap.size + 4) 0 (us3.set 32 (.slice a9 es.length c9)) = w9' at hz9 hr11 ⊢
  have HZ9' := Lib.hid hz9; have HRX := Lib.hid hr11; have HLX := Lib.hid hl12
  clear hz9 hr11 hl11 hl12 hg11 ho11 hZ11 c32 f32 hti hi5
  dsimp only [Act.put]
  repeat go_step
  refine bodyPost_ret (results_ct Try.results84 rfl (res_loadVar HZ9'.out.1 HLX.out)) rfl ⟨_, rfl, ?_, HZ9'.out.2⟩
  rw [← HSF.out]
  first | rw [if_pos rfl, HBT.out] | rw [if_pos True.intro, HBT.out] | rw [HBT.out]
  exact HRX.out.mono (by omega)
 ·have x12 : (er != 0) = true := by simpa using hz
  clear hz h3 hA3
  go_wp2_with (first | ((with_reducible show wpList _ _ _ (⟨none, Op.store _ _ _, _, _, _, _⟩ :: _) _ _); revert HB3))
  intro HB3
  refine res_store rfl _ _ rfl (w.heap.size + 4) 0 rfl zero33 rfl zero33 _ hZ3 (Nat.le_refl 33) rfl one_zero33 ?_
  have hz9 := zero_store (w := w) hZ3 zero33_len HB3.out (Nat.le_add_right _ 4) zero33 rfl
  generalize wc.setCells (w.heap.size + 4) 0 zero33 = w9' at hz9 ⊢
  have HZ9' := Lib.hid hz9
  clear hz9 hZ3
  dsimp only [Act.put]
  repeat go_step
  have hz' : er ≠ 0 := fun h => by rw [h] at x12; exact absurd x12 (by decide)
  have hzF : zSt cm = sF := by rw [← HSF.out]; first | rw [if_neg hz'] | rfl
  rw [← hzF]
  exact bodyPost_ret (results_ct Try.results84 rfl (res_loadVar HZ9'.out.1 zero33_len)) rfl ⟨zero33, rfl, (rsI_zero w.heap.size _ cm).rsQ _, HZ9'.out.2⟩
set_option maxRecDepth 100000 in
set_option maxHeartbeats 4000000 in
theorem ref_do_mf (I : In) (hI : InOk I) (fk fa : Int) (cm0 cm : C5) (hcm : lgC cm0 = cm) (hc0 : 0 ≤ cm0.a) (hc1 : cm0.a ≤ 999) (hf : fk = 0 ∨ fiB fk = true) (hop : opOk cm0.c = true) (hc : cm.c = 0) (hd : motB cm.d = true) (mk mg er : Int) (h5 : er = 5) (hmt : ∀ w1, Calls Try.prog 145 #[.agg #[.int .i64 fk, .int .i64 fa], .agg #[.int .i64 cm.a, .int .i64 cm.b, .int .i64 cm.c, .int .i64 cm.d, .int .i64 cm.e]] w1 (MtPost mk cm.a mg 0 w1)) (hgo : ∀ w1, Ints w1 I.a I.t → Calls Try.prog 146 #[.slice I.a I.n I.c, .int .i64 (I.k : Int), .agg #[.int .i64 mk, .int .i64 cm.a, .int .i64 mg], .bool false] w1 (fun e w' => ∃ x b, e = .returned (.tuple #[.int .i64 x, .bool b, .bool true]) ∧ Below w1.heap.size w1 w')) :
  Calls Try.prog 84 #[.agg #[.slice I.a I.n I.c, .int .i64 (I.k : Int)], .agg (rgA I.vs), .agg #[.int .i64 fk, .int .i64 fa], .agg #[.int .i64 cm0.a, .int .i64 cm0.b, .int .i64 cm0.c, .int .i64 cm0.d, .int .i64 cm0.e]] I.w0 (ResPost I (er) (if er = 0 then { (⟨cm, I.t, I.k, I.X, fk, fa, 0, []⟩ : St) with es := btF I.t I.t } else zSt cm) I.w0) := by
 have hE : lnE I.n I.k = 0 := by
  have := hI.top; have := hI.k1
  unfold lnE
  rw [if_neg (by omega), if_neg (by omega)]
 have HE := Lib.hid hE
 have HI := Lib.hid hI
 have hlv := hI.rgs.lv
 have HR := Lib.hid hI.rgs
 have HT := Lib.hid (show I.t.length = I.n from hI.len)
 have htop := hI.top
 have HTi := Lib.hid hI.ints
 have HN0 := Lib.hid hI.none
 have hcap := hI.cap; have hcap2 := hI.cap2
 have HCM := Lib.hid hcm
 have HF := Lib.hid hf
 have hos : cm0.c = 0 ∨ cm0.c = 100 ∨ cm0.c = 99 ∨ cm0.c = 121 := by simpa [opOk] using hop
 have HOS := Lib.hid hos
 clear hE hI hcm hf hop hos
 have HOL := Lib.hid (show er = 0 → I.t.length ≤ 4096 from fun _ => by rw [HT.out]; omega)
 have x0 : (cm.c != 0) = false := by simpa using hc
 have HD := Lib.hid hd
 have HMT := Lib.hid hmt
 clear hc hd hmt
 have HGO := Lib.hid hgo
 have H5 := Lib.hid h5
 clear hgo h5
 obtain ⟨sF, hsF⟩ : ∃ sF, (if er = 0 then { (⟨cm, I.t, I.k, I.X, fk, fa, 0, []⟩ : St) with es := btF I.t I.t } else zSt cm) = sF := ⟨_, rfl⟩
 rw [hsF]
 have HSF := Lib.hid hsF
 clear hsF
 obtain ⟨w, a, n, c, t, k, vs, X⟩ := I
 dsimp only at *
 have hone : ∀ v ∈ resL (.slice a n c) (k : Int) vs fk fa, v.oneCell' = true := resL_one HR.out
 have hbx := boxes5 w #[.slice a n c, .int .i64 (k : Int)] #[.int .i64 fk, .int .i64 fa] #[.int .i64 cm0.a, .int .i64 cm0.b, .int .i64 cm0.c, .int .i64 cm0.d, .int .i64 cm0.e] vs zero33 131 133 135 80 138
 dsimp only at hbx
 rw [show rgA zero33 = #[.slice none 0 0, .int .i64 0, .slice none 0 0, .slice none 0 0, .slice none 0 0, .slice none 0 0, .slice none 0 0, .slice none 0 0, .slice none 0 0, .slice none 0 0, .slice none 0 0, .slice none 0 0, .slice none 0 0, .slice none 0 0, .slice none 0 0, .slice none 0 0, .slice none 0 0, .slice none 0 0, .slice none 0 0, .slice none 0 0, .slice none 0 0, .slice none 0 0, .slice none 0 0, .slice none 0 0, .slice none 0 0, .slice none 0 0, .slice none 0 0, .slice none 0 0, .slice none 0 0, .int .i64 0, .int .i64 0, .int .i64 0, .slice none 0 0] from rfl] at hbx
 go_enter Try.func84, Try.ntmps84
 go_upto_region 1 with fail
 generalize (((((w.alloc (.cells #[.slice a n c, .int .i64 (k : Int)] 131)).alloc (.cells (rgA vs) 133)).alloc (.cells #[.int .i64 fk, .int .i64 fa] 135)).alloc (.cells #[.int .i64 cm0.a, .int .i64 cm0.b, .int .i64 cm0.c, .int .i64 cm0.d, .int .i64 cm0.e] 80)).alloc (.cells #[.slice none 0 0, .int .i64 0, .slice none 0 0, .slice none 0 0, .slice none 0 0, .slice none 0 0, .slice none 0 0, .slice none 0 0, .slice none 0 0, .slice none 0 0, .slice none 0 0, .slice none 0 0, .slice none 0 0, .slice none 0 0, .slice none 0 0, .slice none 0 0, .slice none 0 0, .slice none 0 0, .slice none 0 0, .slice none 0 0, .slice none 0 0, .slice none 0 0, .slice none 0 0, .slice none 0 0, .slice none 0 0, .slice none 0 0, .slice none 0 0, .slice none 0 0, .slice none 0 0, .int .i64 0, .int .i64 0, .int .i64 0, .slice none 0 0] 138)) = w5 at *
 obtain ⟨hLn, hRg, hFd, hCm, hZ, hbw, hsz⟩ := hbx
 obtain ⟨l0, l1, -, -⟩ := hLn.two
 go_upto_region 4 with (first | (go_at_call 89; go_loud (refine (ref_lineErr a n c (k : Int) _).mono ?_; rintro e w8 ⟨rfl, hb8⟩; rw [HE.out]; have hZ8 := hZ.below hb8 hZ.lt; have HB8 := Lib.hid (hbw.trans (hb8.mono (by omega))); have hC8 := hCm.below hb8 hCm.lt; obtain ⟨d0, d1, d2, d3, d4⟩ := Blk.five hC8; have hLn8 := hLn.below hb8 hLn.lt; have hRg8 := hRg.below hb8 hRg.lt; have hFd8 := hFd.below hb8 hFd.lt; obtain ⟨q0, q1, -, -⟩ := Blk.two hFd8)))
 have HZ8 := Lib.hid hZ8; have HC8 := Lib.hid hC8; have HL8 := Lib.hid hLn8; have HR8 := Lib.hid hRg8; have HF8 := Lib.hid hFd8
 clear hZ hCm hLn hRg hFd hZ8 hC8 hLn8 hRg8 hFd8 l0 l1
 have hw8 : w.heap.size + 5 ≤ w8.heap.size := by have := hb8.size; omega
 clear hb8 hbw
 go_cut [41] (fun v wx => v = .bool false ∧ Below w8.heap.size w8 wx)
 case first =>
  rcases HF.out with rfl | h
  ·go_wp2
   go_meet
   exact ⟨by rw [decide_eq_false (by omega), decide_eq_false (by omega)]; rfl, Below.refl _ _⟩
  ·have HFI := Lib.hid h
   have xf : (fk != 0) = true := by
    have : fk = 102 ∨ fk = 70 ∨ fk = 116 ∨ fk = 84 := by simpa [fiB] using h
    simp; omega
   clear h
   go_wp2_with (go_at_call 141; go_loud (refine (ref_isFind fk _).mono ?_; rintro e w9 ⟨rfl, hb9⟩; rw [HFI.out]))
   go_meet
   exact ⟨by rw [decide_eq_false (by omega), decide_eq_false (by omega)]; rfl, hb9⟩
 obtain ⟨rfl, hb1⟩ := hcut
 clear d0 d1 d2 d3 d4 q0 q1
 obtain ⟨d0, d1, d2, d3, d4⟩ := Blk.five (HC8.out.below hb1 HC8.out.lt)
 go_upto_region 6 with fail
 go_cut [51] (fun v wx => v = .bool false ∧ Below w8.heap.size w8 wx)
 case first =>
  rcases HOS.out with e | e | e | e
  ·have x0 : (cm0.c != 0) = false := by rw [e]; rfl
   clear e
   go_wp2
   go_meet
   exact ⟨rfl, hb1⟩
  all_goals
   have x0 : (cm0.c != 0) = true := by rw [e]; rfl
   have HIN := Lib.hid (show inB cm0.c ⟨#[100, 99, 121]⟩ = true by rw [e]; rfl)
   clear e
   go_wp2_with (go_at_call 121; go_loud (refine (ref_in cm0.c ⟨#[100, 99, 121]⟩ (by decide) _).mono ?_; rintro e w9 ⟨rfl, hb9⟩; rw [HIN.out]))
   go_meet
   exact ⟨rfl, hb1.trans (hb9.mono hb1.size)⟩
 obtain ⟨rfl, hb2⟩ := hcut
 clear d0 d1 d2 d3 d4 hb1
 have hC2 := HC8.out.below hb2 HC8.out.lt
 obtain ⟨d0, d1, d2, d3, d4⟩ := Blk.five hC2
 go_upto_region 8 with fail
 go_cut [9] (fun v wx => v = .int .i64 0 ∧ Blk wx (w.heap.size + 3) #[.int .i64 cm.a, .int .i64 cm.b, .int .i64 cm.c, .int .i64 cm.d, .int .i64 cm.e] 80 ∧ Asd (w.heap.size + 3) w8 wx ∧ Below w.heap.size w wx)
 case first =>
  go_wp2_with (go_at_call 142; go_loud (refine (ref_long cm0 _).mono ?_; rintro e w9 ⟨rfl, hb9⟩; rw [HCM.out, c5_v]; have hC9 := hC2.below hb9 hC2.lt; clear d0 d1 d2 d3 d4; obtain ⟨d0, d1, d2, d3, d4⟩ := Blk.five hC9; have f0 := hC9.free 0; have f1 := hC9.free 1; have f2 := hC9.free 2; have f3 := hC9.free 3; have f4 := hC9.free 4))
  go_meet
  exact ⟨rfl, ((((hC9.set 0 _).set 1 _).set 2 _).set 3 _).set 4 _, (((((Asd.of hb2).trans (Asd.of hb9)).trans (Asd.set _)).trans (Asd.set _)).trans (Asd.set _)).trans (Asd.set _) |>.trans (Asd.set _), ((((((HB8.out.trans (hb2.mono HB8.out.size)).trans (hb9.mono (Nat.le_trans HB8.out.size hb2.size))).setCell (p := ⟨w.heap.size + 3, 0, none⟩) (Nat.le_add_right _ 3) _).setCell (p := ⟨w.heap.size + 3, 1, none⟩) (Nat.le_add_right _ 3) _).setCell (p := ⟨w.heap.size + 3, 2, none⟩) (Nat.le_add_right _ 3) _).setCell (p := ⟨w.heap.size + 3, 3, none⟩) (Nat.le_add_right _ 3) _).setCell (p := ⟨w.heap.size + 3, 4, none⟩) (Nat.le_add_right _ 3) _⟩
 obtain ⟨rfl, hC3, hA3, hB3⟩ := hcut
 clear d0 d1 d2 d3 d4 hC2 hb2
 have hL3 := hA3.blk (B := w.heap.size) (by omega) HL8.out
 have hR3 : BlkR wc (w.heap.size + 1) vs 133 := hA3.blk (B := w.heap.size + 1) (by omega) HR8.out
 have hF3 := hA3.blk (B := w.heap.size + 2) (by omega) HF8.out
 have hZ3 : BlkR wc (w.heap.size + 4) zero33 138 := hA3.blk (B := w.heap.size + 4) (by omega) HZ8.out
 obtain ⟨l0, l1, -, -⟩ := Blk.two hL3
 obtain ⟨q0, q1, -, -⟩ := Blk.two hF3
 obtain ⟨d0, d1, d2, d3, d4⟩ := Blk.five hC3
 have hw3 : w.heap.size + 5 ≤ wc.heap.size := Nat.le_trans hw8 hA3.size
 clear hA3 HL8 HR8 HF8 HZ8 HC8 HB8 hw8 hsz
 generalize wc = w3 at *
 go_upto_region 10 with (first | (refine regs_load rfl _ rfl (w.heap.size + 1) rfl vs _ hR3 hlv ?_) | ((with_reducible show wpList _ _ _ (⟨_, Op.build _ _, _, _, _, _⟩ :: _) _ _); refine resL_build rfl _ _ _ rfl a n c (k : Int) fk fa vs rfl rfl rfl hlv ?_) | ((with_reducible show wpList _ _ _ (⟨none, Op.store _ _ _, _, _, _, _⟩ :: _) _ _); go_loud (refine res_store rfl _ _ rfl w3.heap.size 0 rfl (resL (.slice a n c) (k : Int) vs fk fa) rfl zero33 _ (BlkR.new w3 zero33 138) (Nat.le_refl 33) (resL_len hlv) hone ?_; change wpList _ _ _ _ _ ((w3.alloc (.cells (rgA zero33) 138)).setCells w3.heap.size 0 (resL (.slice a n c) (k : Int) vs fk fa)); have hz9 := zero_store (w := w3) (BlkR.new w3 zero33 138) zero33_len (below1 w3 _) (Nat.le_refl _) (resL (.slice a n c) (k : Int) vs fk fa) (resL_len hlv); generalize ((w3.alloc (.cells (rgA zero33) 138)).setCells w3.heap.size 0 (resL (.slice a n c) (k : Int) vs fk fa)) = w9 at hz9 ⊢)))
 have hL9 : Blk w9 w.heap.size #[.slice a n c, .int .i64 (k : Int)] 131 := hL3.below hz9.2 hL3.lt
 have hR9 := hR3.below hz9.2 hR3.lt
 have hF9 := hF3.below hz9.2 hF3.lt
 have hC9 := hC3.below hz9.2 hC3.lt
 have hZ9 := hZ3.below hz9.2 hZ3.lt
 have hb9 := hB3.trans (hz9.2.mono hB3.size)
 have h9 := rb_new HI.out cm hz9.1 hb9 hB3.size
 dsimp only at h9
 have hP5 : w.heap.size + 4 < w3.heap.size := by omega
 have hP9 : w3.heap.size < w9.heap.size := hz9.1.lt
 clear hL3 hR3 hF3 hC3 hZ3 d0 d1 d2 d3 d4 l0 l1 q0 q1 hB3 hz9 hone hw3
 generalize w3.heap.size = P at *
 have HZ9 := Lib.hid hZ9; have HC9 := Lib.hid hC9; have HR9 := Lib.hid hR9; have HL9 := Lib.hid hL9; have HF9 := Lib.hid hF9; have H9 := Lib.hid h9
 obtain ⟨l0, l1, -, -⟩ := Blk.two hL9
 obtain ⟨q0, q1, -, -⟩ := Blk.two hF9
 obtain ⟨d0, d1, d2, d3, d4⟩ := Blk.five hC9
 clear hL9 hC9 hZ9 h9 hF9
 simp only [Act.put, List.setIfInBounds_toArray, List.set_cons_zero, List.set_cons_succ]
 go_upto_block 0 with fail
 go_cut [12] (fun v wx => v = .int .i64 er ∧ (∃ us, RB ⟨w, a, n, c, t, k, vs, X⟩ P wx us ⟨cm, t, k, X, fk, fa, 0, []⟩) ∧ Asd P w9 wx)
 case first =>
  go_upto_region 16 with (go_at_call 144; go_loud (refine (ref_isMotion cm.d _).mono ?_; rintro e w4 ⟨rfl, hb4⟩; rw [HD.out]; clear l0 l1 q0 q1 d0 d1 d2 d3 d4))
  have hM := Blk.new w4 #[.int .i64 0, .int .i64 0, .int .i64 0] 227
  have hb45 := below1 w4 (.cells #[.int .i64 0, .int .i64 0, .int .i64 0] 227)
  have hPM : P < w4.heap.size := Nat.lt_of_lt_of_le hP9 hb4.size
  have HPM9 := Lib.hid hb4.size
  generalize w4.alloc (.cells #[.int .i64 0, .int .i64 0, .int .i64 0] 227) = w5 at *
  have hb5 := hb4.trans (hb45.mono hb4.size)
  have hF5 := HF9.out.below hb5 HF9.out.lt
  have hC5 := HC9.out.below hb5 HC9.out.lt
  obtain ⟨q0, q1, -, -⟩ := Blk.two hF5
  obtain ⟨d0, d1, d2, d3, d4⟩ := Blk.five hC5
  have hM5 := hM.lt
  generalize w4.heap.size = M at *
  have HB5 := Lib.hid hb5; have HB45 := Lib.hid hb45
  clear hb4 hb5 hb45 hF5 hC5
  go_cut [12] (fun v wx => v = .int .i64 (0) ∧ Blk wx M #[.int .i64 mk, .int .i64 cm.a, .int .i64 mg] 227 ∧ Below M w5 wx)
  case first =>
   go_wp2_with (go_at_call 145; go_loud (refine (HMT.out _).mono ?_; rintro e w6 ⟨rfl, hb6⟩; have hM6 := hM.below hb6 hM5; obtain ⟨y0, y1, y2, z0, z1, z2⟩ := Blk.eqs hM6))
   go_meet
   exact ⟨rfl, ((hM6.set 0 _).set 1 _).set 2 _, (((hb6.mono (Nat.le_of_lt hM5)).setCell (p := ⟨M, 0, none⟩) (Nat.le_refl M) _).setCell (p := ⟨M, 1, none⟩) (Nat.le_refl M) _).setCell (p := ⟨M, 2, none⟩) (Nat.le_refl M) _⟩
  obtain ⟨rfl, hM7, hb57⟩ := hcut
  clear q0 q1 d0 d1 d2 d3 d4
  have hb9M : w9.heap.size ≤ M := HPM9.out
  have hb97 := HB5.out.trans (hb57.mono hb9M)
  have hL7 := HL9.out.below hb97 HL9.out.lt
  have hC7 := HC9.out.below hb97 HC9.out.lt
  obtain ⟨l0, l1, -, -⟩ := Blk.two hL7
  obtain ⟨d0, d1, d2, d3, d4⟩ := Blk.five hC7
  obtain ⟨y0, y1, y2, -, -, -⟩ := Blk.eqs hM7
  have hT7 := HTi.out.below (hb9.trans (hb97.mono hb9.size))
  clear hL7 hC7 hM7
  have hZ7 := HZ9.out.below hb97 HZ9.out.lt
  have HB7 := Lib.hid (hb9.trans (hb97.mono hb9.size))
  go_wp2_with (first | (go_at_call 146; go_loud (refine (HGO.out _ hT7).mono ?_; rintro e w8 ⟨x', b', rfl, hb8⟩; have hZ8 := hZ7.below hb8 hZ7.lt; have HB8 := Lib.hid (below_then HB7.out HB7.out.size hb8))) | ((with_reducible show wpList _ _ _ (⟨none, Op.store _ _ _, _, _, _, _⟩ :: _) _ _); revert HB7))
  intro HB7
  refine res_store rfl _ _ rfl (w.heap.size + 4) 0 rfl zero33 rfl zero33 _ hZ8 (Nat.le_refl 33) rfl one_zero33 ?_
  have hz9 := zero_store (w := w) hZ8 zero33_len HB8.out (Nat.le_add_right _ 4) zero33 rfl
  generalize w8.setCells (w.heap.size + 4) 0 zero33 = w9' at hz9 ⊢
  have HZ9' := Lib.hid hz9
  clear hz9 hZ7 hZ8
  dsimp only [Act.put]
  repeat go_step
  have hz' : er ≠ 0 := fun h => by rw [H5.out] at h; exact absurd h (by decide)
  have hzF : zSt cm = sF := by rw [← HSF.out]; first | rw [if_neg hz'] | rfl
  rw [← hzF, H5.out]
  exact bodyPost_ret (results_ct Try.results84 rfl (res_loadVar HZ9'.out.1 zero33_len)) rfl ⟨zero33, rfl, (rsI_zero w.heap.size _ cm).rsQ _, HZ9'.out.2⟩
 obtain ⟨rfl, ⟨us3, h3⟩, hA3⟩ := hcut
 clear d0 d1 d2 d3 d4 l0 l1 q0 q1
 have hZ3 := hA3.blk (B := w.heap.size + 4) (by omega) HZ9.out
 obtain ⟨l0, l1, -, -⟩ := Blk.two (hA3.blk (B := w.heap.size) (by omega) HL9.out)
 have HB3 := Lib.hid h3.bel
 by_cases hz : er = 0
 ·obtain ⟨a5, n5, c5, e5⟩ : ∃ a5 n5 c5, vx us3 0 = .slice a5 n5 c5 := by
   obtain ⟨q1, q2, q3, q4, -⟩ := (h3.o.sl HI.out h3.bel); exact ⟨q1, q2, q3, q4⟩
  have hsl := h3.o.sl HI.out h3.bel
  rw [e5] at hsl
  have hg := hsl.get
  have HSL := Lib.hid hg.1
  have hi5 := hg.2.2.2.1
  have hnc := hg.2.1
  have HZN := Lib.hid hg.2.2.2.2
  have e0 := h3.b.cell (i := 0) (by rw [h3.lu]; omega)
  rw [e5] at e0
  have hti := HTi.out.below h3.bel
  have hn5 : n5 ≤ 4096 := by have := HOL.out hz; rw [hg.1] at this; exact this
  have H3 := Lib.hid h3; have HA3 := Lib.hid hA3
  subst hz
  clear hsl hg h3 hA3 e5
  go_wp2_with (first | (go_at_call 148; go_loud (refine (ref_between a a5 n c n5 c5 t _ _ hti hi5 HT.out HSL.out (by omega) hn5 hnc HZN.out).mono ?_; rintro e w10 ⟨v9, ws, es, rfl, so9, hbt, hb9'⟩; obtain ⟨a9, c9, rfl, -, -, -⟩ := so9.form; have h10 := H3.out.to hb9'; have c32 := h10.b.cell (i := 32) (by rw [h10.lu]; omega); have f32 := h10.b.free 32; have h11 := h10.setE _ ws es (so9.mono (Nat.succ_le_of_lt H3.out.b.lt)); have HBT := Lib.hid (btF_eq hbt); have hZ11 := ((HA3.out.trans (Asd.of hb9')).trans (Asd.set (P := P) (i := 32) (.slice a9 es.length c9))).blk (B := w.heap.size + 4) (by omega) HZ9.out; have HB11 := Lib.hid h11.bel; have hl11 := h11.lu; have hg11 := rangeAt_blk h11.b; have ho11 := RsQ.one HI.out h11.rsQ; have hr11 := h11.rsQ.left (left_setCells (w10.setCell ⟨P, 32, none⟩ (.slice a9 es.length c9)) (w.heap.size + 4) 0 (us3.set 32 (.slice a9 es.length c9))) (by omega); clear h10 h11 hbt)) | ((with_reducible show wpList _ _ _ (⟨_, Op.load 138 _, _, _, _, _⟩ :: _) _ _); refine res_load rfl _ rfl P 0 rfl _ hg11 hl11 ?_) | ((with_reducible show wpList _ _ _ (⟨none, Op.store 138 _ _, _, _, _, _⟩ :: _) _ _); revert hl11))
  intro hl11
  have hl12 : (us3.set 32 (.slice a9 es.length c9)).length = 33 := by first | exact hl11 | (rw [List.length_set]; exact hl11)
  refine res_store rfl _ _ rfl (w.heap.size + 4) 0 rfl (us3.set 32 (.slice a9 es.length c9)) rfl zero33 _ hZ11 (Nat.le_refl 33) hl12 ho11 ?_
  have hz9 := zero_store (w := w) hZ11 zero33_len HB11.out (Nat.le_add_right _ 4) (us3.set 32 (.slice a9 es.length c9)) hl12
  generalize (w10.setCell ⟨P, 32, none⟩ (.slice a9 es.length c9)).setCells (w.heap.size + 4) 0 (us3.set 32 (.slice a9 es.length c9)) = w9' at hz9 hr11 ⊢
  have HZ9' := Lib.hid hz9; have HRX := Lib.hid hr11; have HLX := Lib.hid hl12
  clear hz9 hr11 hl11 hl12 hg11 ho11 hZ11 c32 f32 hti hi5
  dsimp only [Act.put]
  repeat go_step
  refine bodyPost_ret (results_ct Try.results84 rfl (res_loadVar HZ9'.out.1 HLX.out)) rfl ⟨_, rfl, ?_, HZ9'.out.2⟩
  rw [← HSF.out]
  first | rw [if_pos rfl, HBT.out] | rw [if_pos True.intro, HBT.out] | rw [HBT.out]
  exact HRX.out.mono (by omega)
 ·have x12 : (er != 0) = true := by simpa using hz
  clear hz h3 hA3
  go_wp2_with (first | ((with_reducible show wpList _ _ _ (⟨none, Op.store _ _ _, _, _, _, _⟩ :: _) _ _); revert HB3))
  intro HB3
  refine res_store rfl _ _ rfl (w.heap.size + 4) 0 rfl zero33 rfl zero33 _ hZ3 (Nat.le_refl 33) rfl one_zero33 ?_
  have hz9 := zero_store (w := w) hZ3 zero33_len HB3.out (Nat.le_add_right _ 4) zero33 rfl
  generalize wc.setCells (w.heap.size + 4) 0 zero33 = w9' at hz9 ⊢
  have HZ9' := Lib.hid hz9
  clear hz9 hZ3
  dsimp only [Act.put]
  repeat go_step
  have hz' : er ≠ 0 := fun h => by rw [h] at x12; exact absurd x12 (by decide)
  have hzF : zSt cm = sF := by rw [← HSF.out]; first | rw [if_neg hz'] | rfl
  rw [← hzF]
  exact bodyPost_ret (results_ct Try.results84 rfl (res_loadVar HZ9'.out.1 zero33_len)) rfl ⟨zero33, rfl, (rsI_zero w.heap.size _ cm).rsQ _, HZ9'.out.2⟩
set_option maxRecDepth 100000 in
set_option maxHeartbeats 4000000 in
theorem ref_do_mg (I : In) (hI : InOk I) (fk fa : Int) (cm0 cm : C5) (hcm : lgC cm0 = cm) (hc0 : 0 ≤ cm0.a) (hc1 : cm0.a ≤ 999) (hf : fk = 0 ∨ fiB fk = true) (hop : opOk cm0.c = true) (hc : cm.c = 0) (hd : motB cm.d = true) (mk mg er x : Int) (b : Bool) (h5 : er = 0) (hmt : ∀ w1, Calls Try.prog 145 #[.agg #[.int .i64 fk, .int .i64 fa], .agg #[.int .i64 cm.a, .int .i64 cm.b, .int .i64 cm.c, .int .i64 cm.d, .int .i64 cm.e]] w1 (MtPost mk cm.a mg 0 w1)) (hgo : ∀ w1, Ints w1 I.a I.t → Calls Try.prog 146 #[.slice I.a I.n I.c, .int .i64 (I.k : Int), .agg #[.int .i64 mk, .int .i64 cm.a, .int .i64 mg], .bool false] w1 (fun e w' => e = .returned (.tuple #[.int .i64 x, .bool b, .bool false]) ∧ Below w1.heap.size w1 w')) :
  Calls Try.prog 84 #[.agg #[.slice I.a I.n I.c, .int .i64 (I.k : Int)], .agg (rgA I.vs), .agg #[.int .i64 fk, .int .i64 fa], .agg #[.int .i64 cm0.a, .int .i64 cm0.b, .int .i64 cm0.c, .int .i64 cm0.d, .int .i64 cm0.e]] I.w0 (ResPost I (er) (if er = 0 then { (⟨cm, I.t, x, I.X, lkV fk cm.d, laV fa cm.d cm.e, 0, []⟩ : St) with es := btF I.t I.t } else zSt cm) I.w0) := by
 have hE : lnE I.n I.k = 0 := by
  have := hI.top; have := hI.k1
  unfold lnE
  rw [if_neg (by omega), if_neg (by omega)]
 have HE := Lib.hid hE
 have HI := Lib.hid hI
 have hlv := hI.rgs.lv
 have HR := Lib.hid hI.rgs
 have HT := Lib.hid (show I.t.length = I.n from hI.len)
 have htop := hI.top
 have HTi := Lib.hid hI.ints
 have HN0 := Lib.hid hI.none
 have hcap := hI.cap; have hcap2 := hI.cap2
 have HCM := Lib.hid hcm
 have HF := Lib.hid hf
 have hos : cm0.c = 0 ∨ cm0.c = 100 ∨ cm0.c = 99 ∨ cm0.c = 121 := by simpa [opOk] using hop
 have HOS := Lib.hid hos
 clear hE hI hcm hf hop hos
 have HOL := Lib.hid (show er = 0 → I.t.length ≤ 4096 from fun _ => by rw [HT.out]; omega)
 have x0 : (cm.c != 0) = false := by simpa using hc
 have HD := Lib.hid hd
 have HMT := Lib.hid hmt
 clear hc hd hmt
 have HGO := Lib.hid hgo
 have H5 := Lib.hid h5
 clear hgo h5
 obtain ⟨sF, hsF⟩ : ∃ sF, (if er = 0 then { (⟨cm, I.t, x, I.X, lkV fk cm.d, laV fa cm.d cm.e, 0, []⟩ : St) with es := btF I.t I.t } else zSt cm) = sF := ⟨_, rfl⟩
 rw [hsF]
 have HSF := Lib.hid hsF
 clear hsF
 obtain ⟨w, a, n, c, t, k, vs, X⟩ := I
 dsimp only at *
 have hone : ∀ v ∈ resL (.slice a n c) (k : Int) vs fk fa, v.oneCell' = true := resL_one HR.out
 have hbx := boxes5 w #[.slice a n c, .int .i64 (k : Int)] #[.int .i64 fk, .int .i64 fa] #[.int .i64 cm0.a, .int .i64 cm0.b, .int .i64 cm0.c, .int .i64 cm0.d, .int .i64 cm0.e] vs zero33 131 133 135 80 138
 dsimp only at hbx
 rw [show rgA zero33 = #[.slice none 0 0, .int .i64 0, .slice none 0 0, .slice none 0 0, .slice none 0 0, .slice none 0 0, .slice none 0 0, .slice none 0 0, .slice none 0 0, .slice none 0 0, .slice none 0 0, .slice none 0 0, .slice none 0 0, .slice none 0 0, .slice none 0 0, .slice none 0 0, .slice none 0 0, .slice none 0 0, .slice none 0 0, .slice none 0 0, .slice none 0 0, .slice none 0 0, .slice none 0 0, .slice none 0 0, .slice none 0 0, .slice none 0 0, .slice none 0 0, .slice none 0 0, .slice none 0 0, .int .i64 0, .int .i64 0, .int .i64 0, .slice none 0 0] from rfl] at hbx
 go_enter Try.func84, Try.ntmps84
 go_upto_region 1 with fail
 generalize (((((w.alloc (.cells #[.slice a n c, .int .i64 (k : Int)] 131)).alloc (.cells (rgA vs) 133)).alloc (.cells #[.int .i64 fk, .int .i64 fa] 135)).alloc (.cells #[.int .i64 cm0.a, .int .i64 cm0.b, .int .i64 cm0.c, .int .i64 cm0.d, .int .i64 cm0.e] 80)).alloc (.cells #[.slice none 0 0, .int .i64 0, .slice none 0 0, .slice none 0 0, .slice none 0 0, .slice none 0 0, .slice none 0 0, .slice none 0 0, .slice none 0 0, .slice none 0 0, .slice none 0 0, .slice none 0 0, .slice none 0 0, .slice none 0 0, .slice none 0 0, .slice none 0 0, .slice none 0 0, .slice none 0 0, .slice none 0 0, .slice none 0 0, .slice none 0 0, .slice none 0 0, .slice none 0 0, .slice none 0 0, .slice none 0 0, .slice none 0 0, .slice none 0 0, .slice none 0 0, .slice none 0 0, .int .i64 0, .int .i64 0, .int .i64 0, .slice none 0 0] 138)) = w5 at *
 obtain ⟨hLn, hRg, hFd, hCm, hZ, hbw, hsz⟩ := hbx
 obtain ⟨l0, l1, -, -⟩ := hLn.two
 go_upto_region 4 with (first | (go_at_call 89; go_loud (refine (ref_lineErr a n c (k : Int) _).mono ?_; rintro e w8 ⟨rfl, hb8⟩; rw [HE.out]; have hZ8 := hZ.below hb8 hZ.lt; have HB8 := Lib.hid (hbw.trans (hb8.mono (by omega))); have hC8 := hCm.below hb8 hCm.lt; obtain ⟨d0, d1, d2, d3, d4⟩ := Blk.five hC8; have hLn8 := hLn.below hb8 hLn.lt; have hRg8 := hRg.below hb8 hRg.lt; have hFd8 := hFd.below hb8 hFd.lt; obtain ⟨q0, q1, -, -⟩ := Blk.two hFd8)))
 have HZ8 := Lib.hid hZ8; have HC8 := Lib.hid hC8; have HL8 := Lib.hid hLn8; have HR8 := Lib.hid hRg8; have HF8 := Lib.hid hFd8
 clear hZ hCm hLn hRg hFd hZ8 hC8 hLn8 hRg8 hFd8 l0 l1
 have hw8 : w.heap.size + 5 ≤ w8.heap.size := by have := hb8.size; omega
 clear hb8 hbw
 go_cut [41] (fun v wx => v = .bool false ∧ Below w8.heap.size w8 wx)
 case first =>
  rcases HF.out with rfl | h
  ·go_wp2
   go_meet
   exact ⟨by rw [decide_eq_false (by omega), decide_eq_false (by omega)]; rfl, Below.refl _ _⟩
  ·have HFI := Lib.hid h
   have xf : (fk != 0) = true := by
    have : fk = 102 ∨ fk = 70 ∨ fk = 116 ∨ fk = 84 := by simpa [fiB] using h
    simp; omega
   clear h
   go_wp2_with (go_at_call 141; go_loud (refine (ref_isFind fk _).mono ?_; rintro e w9 ⟨rfl, hb9⟩; rw [HFI.out]))
   go_meet
   exact ⟨by rw [decide_eq_false (by omega), decide_eq_false (by omega)]; rfl, hb9⟩
 obtain ⟨rfl, hb1⟩ := hcut
 clear d0 d1 d2 d3 d4 q0 q1
 obtain ⟨d0, d1, d2, d3, d4⟩ := Blk.five (HC8.out.below hb1 HC8.out.lt)
 go_upto_region 6 with fail
 go_cut [51] (fun v wx => v = .bool false ∧ Below w8.heap.size w8 wx)
 case first =>
  rcases HOS.out with e | e | e | e
  ·have x0 : (cm0.c != 0) = false := by rw [e]; rfl
   clear e
   go_wp2
   go_meet
   exact ⟨rfl, hb1⟩
  all_goals
   have x0 : (cm0.c != 0) = true := by rw [e]; rfl
   have HIN := Lib.hid (show inB cm0.c ⟨#[100, 99, 121]⟩ = true by rw [e]; rfl)
   clear e
   go_wp2_with (go_at_call 121; go_loud (refine (ref_in cm0.c ⟨#[100, 99, 121]⟩ (by decide) _).mono ?_; rintro e w9 ⟨rfl, hb9⟩; rw [HIN.out]))
   go_meet
   exact ⟨rfl, hb1.trans (hb9.mono hb1.size)⟩
 obtain ⟨rfl, hb2⟩ := hcut
 clear d0 d1 d2 d3 d4 hb1
 have hC2 := HC8.out.below hb2 HC8.out.lt
 obtain ⟨d0, d1, d2, d3, d4⟩ := Blk.five hC2
 go_upto_region 8 with fail
 go_cut [9] (fun v wx => v = .int .i64 0 ∧ Blk wx (w.heap.size + 3) #[.int .i64 cm.a, .int .i64 cm.b, .int .i64 cm.c, .int .i64 cm.d, .int .i64 cm.e] 80 ∧ Asd (w.heap.size + 3) w8 wx ∧ Below w.heap.size w wx)
 case first =>
  go_wp2_with (go_at_call 142; go_loud (refine (ref_long cm0 _).mono ?_; rintro e w9 ⟨rfl, hb9⟩; rw [HCM.out, c5_v]; have hC9 := hC2.below hb9 hC2.lt; clear d0 d1 d2 d3 d4; obtain ⟨d0, d1, d2, d3, d4⟩ := Blk.five hC9; have f0 := hC9.free 0; have f1 := hC9.free 1; have f2 := hC9.free 2; have f3 := hC9.free 3; have f4 := hC9.free 4))
  go_meet
  exact ⟨rfl, ((((hC9.set 0 _).set 1 _).set 2 _).set 3 _).set 4 _, (((((Asd.of hb2).trans (Asd.of hb9)).trans (Asd.set _)).trans (Asd.set _)).trans (Asd.set _)).trans (Asd.set _) |>.trans (Asd.set _), ((((((HB8.out.trans (hb2.mono HB8.out.size)).trans (hb9.mono (Nat.le_trans HB8.out.size hb2.size))).setCell (p := ⟨w.heap.size + 3, 0, none⟩) (Nat.le_add_right _ 3) _).setCell (p := ⟨w.heap.size + 3, 1, none⟩) (Nat.le_add_right _ 3) _).setCell (p := ⟨w.heap.size + 3, 2, none⟩) (Nat.le_add_right _ 3) _).setCell (p := ⟨w.heap.size + 3, 3, none⟩) (Nat.le_add_right _ 3) _).setCell (p := ⟨w.heap.size + 3, 4, none⟩) (Nat.le_add_right _ 3) _⟩
 obtain ⟨rfl, hC3, hA3, hB3⟩ := hcut
 clear d0 d1 d2 d3 d4 hC2 hb2
 have hL3 := hA3.blk (B := w.heap.size) (by omega) HL8.out
 have hR3 : BlkR wc (w.heap.size + 1) vs 133 := hA3.blk (B := w.heap.size + 1) (by omega) HR8.out
 have hF3 := hA3.blk (B := w.heap.size + 2) (by omega) HF8.out
 have hZ3 : BlkR wc (w.heap.size + 4) zero33 138 := hA3.blk (B := w.heap.size + 4) (by omega) HZ8.out
 obtain ⟨l0, l1, -, -⟩ := Blk.two hL3
 obtain ⟨q0, q1, -, -⟩ := Blk.two hF3
 obtain ⟨d0, d1, d2, d3, d4⟩ := Blk.five hC3
 have hw3 : w.heap.size + 5 ≤ wc.heap.size := Nat.le_trans hw8 hA3.size
 clear hA3 HL8 HR8 HF8 HZ8 HC8 HB8 hw8 hsz
 generalize wc = w3 at *
 go_upto_region 10 with (first | (refine regs_load rfl _ rfl (w.heap.size + 1) rfl vs _ hR3 hlv ?_) | ((with_reducible show wpList _ _ _ (⟨_, Op.build _ _, _, _, _, _⟩ :: _) _ _); refine resL_build rfl _ _ _ rfl a n c (k : Int) fk fa vs rfl rfl rfl hlv ?_) | ((with_reducible show wpList _ _ _ (⟨none, Op.store _ _ _, _, _, _, _⟩ :: _) _ _); go_loud (refine res_store rfl _ _ rfl w3.heap.size 0 rfl (resL (.slice a n c) (k : Int) vs fk fa) rfl zero33 _ (BlkR.new w3 zero33 138) (Nat.le_refl 33) (resL_len hlv) hone ?_; change wpList _ _ _ _ _ ((w3.alloc (.cells (rgA zero33) 138)).setCells w3.heap.size 0 (resL (.slice a n c) (k : Int) vs fk fa)); have hz9 := zero_store (w := w3) (BlkR.new w3 zero33 138) zero33_len (below1 w3 _) (Nat.le_refl _) (resL (.slice a n c) (k : Int) vs fk fa) (resL_len hlv); generalize ((w3.alloc (.cells (rgA zero33) 138)).setCells w3.heap.size 0 (resL (.slice a n c) (k : Int) vs fk fa)) = w9 at hz9 ⊢)))
 have hL9 : Blk w9 w.heap.size #[.slice a n c, .int .i64 (k : Int)] 131 := hL3.below hz9.2 hL3.lt
 have hR9 := hR3.below hz9.2 hR3.lt
 have hF9 := hF3.below hz9.2 hF3.lt
 have hC9 := hC3.below hz9.2 hC3.lt
 have hZ9 := hZ3.below hz9.2 hZ3.lt
 have hb9 := hB3.trans (hz9.2.mono hB3.size)
 have h9 := rb_new HI.out cm hz9.1 hb9 hB3.size
 dsimp only at h9
 have hP5 : w.heap.size + 4 < w3.heap.size := by omega
 have hP9 : w3.heap.size < w9.heap.size := hz9.1.lt
 clear hL3 hR3 hF3 hC3 hZ3 d0 d1 d2 d3 d4 l0 l1 q0 q1 hB3 hz9 hone hw3
 generalize w3.heap.size = P at *
 have HZ9 := Lib.hid hZ9; have HC9 := Lib.hid hC9; have HR9 := Lib.hid hR9; have HL9 := Lib.hid hL9; have HF9 := Lib.hid hF9; have H9 := Lib.hid h9
 obtain ⟨l0, l1, -, -⟩ := Blk.two hL9
 obtain ⟨q0, q1, -, -⟩ := Blk.two hF9
 obtain ⟨d0, d1, d2, d3, d4⟩ := Blk.five hC9
 clear hL9 hC9 hZ9 h9 hF9
 simp only [Act.put, List.setIfInBounds_toArray, List.set_cons_zero, List.set_cons_succ]
 go_upto_block 0 with fail
 go_cut [12] (fun v wx => v = .int .i64 er ∧ (∃ us, RB ⟨w, a, n, c, t, k, vs, X⟩ P wx us ⟨cm, t, x, X, lkV fk cm.d, laV fa cm.d cm.e, 0, []⟩) ∧ Asd P w9 wx)
 case first =>
  go_upto_region 16 with (go_at_call 144; go_loud (refine (ref_isMotion cm.d _).mono ?_; rintro e w4 ⟨rfl, hb4⟩; rw [HD.out]; clear l0 l1 q0 q1 d0 d1 d2 d3 d4))
  have hM := Blk.new w4 #[.int .i64 0, .int .i64 0, .int .i64 0] 227
  have hb45 := below1 w4 (.cells #[.int .i64 0, .int .i64 0, .int .i64 0] 227)
  have hPM : P < w4.heap.size := Nat.lt_of_lt_of_le hP9 hb4.size
  have HPM9 := Lib.hid hb4.size
  generalize w4.alloc (.cells #[.int .i64 0, .int .i64 0, .int .i64 0] 227) = w5 at *
  have hb5 := hb4.trans (hb45.mono hb4.size)
  have hF5 := HF9.out.below hb5 HF9.out.lt
  have hC5 := HC9.out.below hb5 HC9.out.lt
  obtain ⟨q0, q1, -, -⟩ := Blk.two hF5
  obtain ⟨d0, d1, d2, d3, d4⟩ := Blk.five hC5
  have hM5 := hM.lt
  generalize w4.heap.size = M at *
  have HB5 := Lib.hid hb5; have HB45 := Lib.hid hb45
  clear hb4 hb5 hb45 hF5 hC5
  go_cut [12] (fun v wx => v = .int .i64 (0) ∧ Blk wx M #[.int .i64 mk, .int .i64 cm.a, .int .i64 mg] 227 ∧ Below M w5 wx)
  case first =>
   go_wp2_with (go_at_call 145; go_loud (refine (HMT.out _).mono ?_; rintro e w6 ⟨rfl, hb6⟩; have hM6 := hM.below hb6 hM5; obtain ⟨y0, y1, y2, z0, z1, z2⟩ := Blk.eqs hM6))
   go_meet
   exact ⟨rfl, ((hM6.set 0 _).set 1 _).set 2 _, (((hb6.mono (Nat.le_of_lt hM5)).setCell (p := ⟨M, 0, none⟩) (Nat.le_refl M) _).setCell (p := ⟨M, 1, none⟩) (Nat.le_refl M) _).setCell (p := ⟨M, 2, none⟩) (Nat.le_refl M) _⟩
  obtain ⟨rfl, hM7, hb57⟩ := hcut
  clear q0 q1 d0 d1 d2 d3 d4
  have hb9M : w9.heap.size ≤ M := HPM9.out
  have hb97 := HB5.out.trans (hb57.mono hb9M)
  have hL7 := HL9.out.below hb97 HL9.out.lt
  have hC7 := HC9.out.below hb97 HC9.out.lt
  obtain ⟨l0, l1, -, -⟩ := Blk.two hL7
  obtain ⟨d0, d1, d2, d3, d4⟩ := Blk.five hC7
  obtain ⟨y0, y1, y2, -, -, -⟩ := Blk.eqs hM7
  have hT7 := HTi.out.below (hb9.trans (hb97.mono hb9.size))
  have HC7 := Lib.hid hC7
  clear hL7 hC7 hM7
  have h97 := Lib.hid (H9.out.to hb97)
  go_upto_region 21 with (go_at_call 146; go_loud (refine (HGO.out _ hT7).mono ?_; rintro e w8 ⟨rfl, hb8⟩; have h8 := Lib.hid (h97.out.to hb8); have HC8 := Lib.hid (HC7.out.below hb8 HC7.out.lt); obtain ⟨y1', yf1'⟩ := h8.out.mvS (o := 1) (by omega)))
  go_cut [105] (fun v wx => (∃ us, RB ⟨w, a, n, c, t, k, vs, X⟩ P wx us ⟨cm, t, x, X, fk, fa, 0, []⟩) ∧ Asd P w8 wx)
  case first =>
   go_wp2
   go_meet
   exact ⟨⟨_, h8.out.setP x⟩, Asd.set _⟩
  obtain ⟨⟨us6, h6⟩, hA6⟩ := hcut
  have hC6 := hA6.blk (B := w.heap.size + 3) (by omega) HC8.out
  have hA96 := (Asd.of (P := P) hb97).trans ((Asd.of hb8).trans hA6)
  clear l0 l1 d0 d1 d2 d3 d4 y0 y1 y2
  obtain ⟨d0, d1, d2, d3, d4⟩ := Blk.five hC6
  have HC6 := Lib.hid hC6; have H6 := Lib.hid h6; have HA96 := Lib.hid hA96
  have hC6l := hC6.lt
  clear hC6 h6 hA96 hA6 hb8 hT7
  by_cases hfi : fiB cm.d = true
  ·have HFI := Lib.hid hfi
   clear hfi
   go_wp2_with (go_at_call 141; go_loud (refine (ref_isFind cm.d _).mono ?_; rintro e w7 ⟨rfl, hb7⟩; rw [HFI.out]; have h7 := H6.out.to hb7; obtain ⟨y29, yf29⟩ := h7.mvS (o := 29) (by omega); obtain ⟨y30, yf30⟩ := h7.mvS (o := 30) (by omega); clear d0 d1 d2 d3 d4; obtain ⟨d0, d1, d2, d3, d4⟩ := Blk.five (HC6.out.below hb7 hC6l); have H7 := Lib.hid h7; clear h7))
   go_meet
   rw [show lkV fk cm.d = cm.d by simp [lkV, HFI.out], show laV fa cm.d cm.e = cm.e by simp [laV, HFI.out]]
   exact ⟨by rw [H5.out], ⟨_, (H7.out.setK cm.d).setA cm.e⟩, ((HA96.out.trans (Asd.of hb7)).trans (Asd.set _)).trans (Asd.set _)⟩
  ·have HFI := Lib.hid (show fiB cm.d = false by simpa using hfi)
   clear hfi
   go_wp2_with (go_at_call 141; go_loud (refine (ref_isFind cm.d _).mono ?_; rintro e w7 ⟨rfl, hb7⟩; rw [HFI.out]; have H7 := Lib.hid (H6.out.to hb7)))
   go_meet
   rw [show lkV fk cm.d = fk by simp [lkV, HFI.out], show laV fa cm.d cm.e = fa by simp [laV, HFI.out]]
   exact ⟨by rw [H5.out], ⟨_, H7.out⟩, HA96.out.trans (Asd.of hb7)⟩
 obtain ⟨rfl, ⟨us3, h3⟩, hA3⟩ := hcut
 clear d0 d1 d2 d3 d4 l0 l1 q0 q1
 have hZ3 := hA3.blk (B := w.heap.size + 4) (by omega) HZ9.out
 obtain ⟨l0, l1, -, -⟩ := Blk.two (hA3.blk (B := w.heap.size) (by omega) HL9.out)
 have HB3 := Lib.hid h3.bel
 by_cases hz : er = 0
 ·obtain ⟨a5, n5, c5, e5⟩ : ∃ a5 n5 c5, vx us3 0 = .slice a5 n5 c5 := by
   obtain ⟨q1, q2, q3, q4, -⟩ := (h3.o.sl HI.out h3.bel); exact ⟨q1, q2, q3, q4⟩
  have hsl := h3.o.sl HI.out h3.bel
  rw [e5] at hsl
  have hg := hsl.get
  have HSL := Lib.hid hg.1
  have hi5 := hg.2.2.2.1
  have hnc := hg.2.1
  have HZN := Lib.hid hg.2.2.2.2
  have e0 := h3.b.cell (i := 0) (by rw [h3.lu]; omega)
  rw [e5] at e0
  have hti := HTi.out.below h3.bel
  have hn5 : n5 ≤ 4096 := by have := HOL.out hz; rw [hg.1] at this; exact this
  have H3 := Lib.hid h3; have HA3 := Lib.hid hA3
  subst hz
  clear hsl hg h3 hA3 e5
  go_wp2_with (first | (go_at_call 148; go_loud (refine (ref_between a a5 n c n5 c5 t _ _ hti hi5 HT.out HSL.out (by omega) hn5 hnc HZN.out).mono ?_; rintro e w10 ⟨v9, ws, es, rfl, so9, hbt, hb9'⟩; obtain ⟨a9, c9, rfl, -, -, -⟩ := so9.form; have h10 := H3.out.to hb9'; have c32 := h10.b.cell (i := 32) (by rw [h10.lu]; omega); have f32 := h10.b.free 32; have h11 := h10.setE _ ws es (so9.mono (Nat.succ_le_of_lt H3.out.b.lt)); have HBT := Lib.hid (btF_eq hbt); have hZ11 := ((HA3.out.trans (Asd.of hb9')).trans (Asd.set (P := P) (i := 32) (.slice a9 es.length c9))).blk (B := w.heap.size + 4) (by omega) HZ9.out; have HB11 := Lib.hid h11.bel; have hl11 := h11.lu; have hg11 := rangeAt_blk h11.b; have ho11 := RsQ.one HI.out h11.rsQ; have hr11 := h11.rsQ.left (left_setCells (w10.setCell ⟨P, 32, none⟩ (.slice a9 es.length c9)) (w.heap.size + 4) 0 (us3.set 32 (.slice a9 es.length c9))) (by omega); clear h10 h11 hbt)) | ((with_reducible show wpList _ _ _ (⟨_, Op.load 138 _, _, _, _, _⟩ :: _) _ _); refine res_load rfl _ rfl P 0 rfl _ hg11 hl11 ?_) | ((with_reducible show wpList _ _ _ (⟨none, Op.store 138 _ _, _, _, _, _⟩ :: _) _ _); revert hl11))
  intro hl11
  have hl12 : (us3.set 32 (.slice a9 es.length c9)).length = 33 := by first | exact hl11 | (rw [List.length_set]; exact hl11)
  refine res_store rfl _ _ rfl (w.heap.size + 4) 0 rfl (us3.set 32 (.slice a9 es.length c9)) rfl zero33 _ hZ11 (Nat.le_refl 33) hl12 ho11 ?_
  have hz9 := zero_store (w := w) hZ11 zero33_len HB11.out (Nat.le_add_right _ 4) (us3.set 32 (.slice a9 es.length c9)) hl12
  generalize (w10.setCell ⟨P, 32, none⟩ (.slice a9 es.length c9)).setCells (w.heap.size + 4) 0 (us3.set 32 (.slice a9 es.length c9)) = w9' at hz9 hr11 ⊢
  have HZ9' := Lib.hid hz9; have HRX := Lib.hid hr11; have HLX := Lib.hid hl12
  clear hz9 hr11 hl11 hl12 hg11 ho11 hZ11 c32 f32 hti hi5
  dsimp only [Act.put]
  repeat go_step
  refine bodyPost_ret (results_ct Try.results84 rfl (res_loadVar HZ9'.out.1 HLX.out)) rfl ⟨_, rfl, ?_, HZ9'.out.2⟩
  rw [← HSF.out]
  first | rw [if_pos rfl, HBT.out] | rw [if_pos True.intro, HBT.out] | rw [HBT.out]
  exact HRX.out.mono (by omega)
 ·have x12 : (er != 0) = true := by simpa using hz
  clear hz h3 hA3
  go_wp2_with (first | ((with_reducible show wpList _ _ _ (⟨none, Op.store _ _ _, _, _, _, _⟩ :: _) _ _); revert HB3))
  intro HB3
  refine res_store rfl _ _ rfl (w.heap.size + 4) 0 rfl zero33 rfl zero33 _ hZ3 (Nat.le_refl 33) rfl one_zero33 ?_
  have hz9 := zero_store (w := w) hZ3 zero33_len HB3.out (Nat.le_add_right _ 4) zero33 rfl
  generalize wc.setCells (w.heap.size + 4) 0 zero33 = w9' at hz9 ⊢
  have HZ9' := Lib.hid hz9
  clear hz9 hZ3
  dsimp only [Act.put]
  repeat go_step
  have hz' : er ≠ 0 := fun h => by rw [h] at x12; exact absurd x12 (by decide)
  have hzF : zSt cm = sF := by rw [← HSF.out]; first | rw [if_neg hz'] | rfl
  rw [← hzF]
  exact bodyPost_ret (results_ct Try.results84 rfl (res_loadVar HZ9'.out.1 zero33_len)) rfl ⟨zero33, rfl, (rsI_zero w.heap.size _ cm).rsQ _, HZ9'.out.2⟩
set_option maxRecDepth 100000 in
set_option maxHeartbeats 4000000 in
theorem do_main (I : In) (hI : InOk I) (fk fa : Int) (cm : C5) (hc0 : 0 ≤ cm.a) (hc1 : cm.a ≤ 999) :
  Calls Try.prog 83 #[.agg #[.slice I.a I.n I.c, .int .i64 (I.k : Int)], .agg (rgA I.vs), .agg #[.int .i64 fk, .int .i64 fa], .agg #[.int .i64 cm.a, .int .i64 cm.b, .int .i64 cm.c, .int .i64 cm.d, .int .i64 cm.e]] I.w0 (DoPost (doR I cm fk fa).1 (doR I cm fk fa).2 I.w0) := by
 have hlE : lnE I.n I.k = 0 := by
  have := hI.top; have := hI.k1
  unfold lnE
  rw [if_neg (by omega), if_neg (by omega)]
 have hlv := hI.rgs.lv
 have HI := Lib.hid hI
 have HD := Lib.hid (fun (w : World) (hb : Below I.w0.heap.size I.w0 w) => di_zero hI cm hb)
 have HT := Lib.hid (show I.t.length = I.n from hI.len)
 have htop := hI.top
 have HR := Lib.hid (fun (wx : World) (hb : Below I.w0.heap.size I.w0 wx) => hI.ints.below hb)
 have HN0 := Lib.hid hI.none
 clear hI
 have hX27 : I.X.length = 27 := HI.out.rgs.lx
 have HDR := Lib.hid (show doR I cm fk fa = doR I cm fk fa from rfl)
 obtain ⟨w, a, n, c, t, k, vs, X⟩ := I
 dsimp only at *
 have hal := alloc_res
 have hbl := build_res
 have HE := Lib.hid hlE
 clear hlE
 have hbx := boxes5 w #[.slice a n c, .int .i64 (k : Int)] #[.int .i64 fk, .int .i64 fa] #[.int .i64 cm.a, .int .i64 cm.b, .int .i64 cm.c, .int .i64 cm.d, .int .i64 cm.e] vs zero33 131 133 135 80 138
 dsimp only at hbx
 rw [show rgA zero33 = #[.slice none 0 0, .int .i64 0, .slice none 0 0, .slice none 0 0, .slice none 0 0, .slice none 0 0, .slice none 0 0, .slice none 0 0, .slice none 0 0, .slice none 0 0, .slice none 0 0, .slice none 0 0, .slice none 0 0, .slice none 0 0, .slice none 0 0, .slice none 0 0, .slice none 0 0, .slice none 0 0, .slice none 0 0, .slice none 0 0, .slice none 0 0, .slice none 0 0, .slice none 0 0, .slice none 0 0, .slice none 0 0, .slice none 0 0, .slice none 0 0, .slice none 0 0, .slice none 0 0, .int .i64 0, .int .i64 0, .int .i64 0, .slice none 0 0] from rfl] at hbx
 go_enter Try.func83, Try.ntmps83
 go_upto_region 1 with fail
 generalize (((((w.alloc (.cells #[.slice a n c, .int .i64 (k : Int)] 131)).alloc (.cells (rgA vs) 133)).alloc (.cells #[.int .i64 fk, .int .i64 fa] 135)).alloc (.cells #[.int .i64 cm.a, .int .i64 cm.b, .int .i64 cm.c, .int .i64 cm.d, .int .i64 cm.e] 80)).alloc (.cells #[.slice none 0 0, .int .i64 0, .slice none 0 0, .slice none 0 0, .slice none 0 0, .slice none 0 0, .slice none 0 0, .slice none 0 0, .slice none 0 0, .slice none 0 0, .slice none 0 0, .slice none 0 0, .slice none 0 0, .slice none 0 0, .slice none 0 0, .slice none 0 0, .slice none 0 0, .slice none 0 0, .slice none 0 0, .slice none 0 0, .slice none 0 0, .slice none 0 0, .slice none 0 0, .slice none 0 0, .slice none 0 0, .slice none 0 0, .slice none 0 0, .slice none 0 0, .slice none 0 0, .int .i64 0, .int .i64 0, .int .i64 0, .slice none 0 0] 138)) = w5 at *
 obtain ⟨hLn, hRg, hFd, hCm, hZ, hbw, hsz⟩ := hbx
 obtain ⟨l0, l1, -, -⟩ := hLn.two
 go_upto_region 7 with (first | (go_at_call 88; go_loud (refine (edit_check a n c (k : Int) _).mono ?_; rintro e w8 ⟨rfl, hb8⟩; rw [HE.out]; have hZ8 := hZ.below hb8 hZ.lt; have HB8 := Lib.hid (hbw.trans (hb8.mono (by omega))); have hC8 := hCm.below hb8 hCm.lt; obtain ⟨d0, d1, d2, d3, d4⟩ := Blk.five hC8; have hLn8 := hLn.below hb8 hLn.lt; obtain ⟨p0, p1, -, -⟩ := Blk.two hLn8; have HLn8 := Lib.hid hLn8; clear hLn8; have HRg8 := Lib.hid (hRg.below hb8 hRg.lt); have HFd8 := Lib.hid (hFd.below hb8 hFd.lt); have HC8 := Lib.hid hC8; clear hC8 hb8)) | (refine regs_load rfl _ rfl (w.heap.size + 1) rfl vs _ HRg8.out hlv ?_) | ((with_reducible show wpList _ _ _ (⟨_, Op.build _ _, _, _, _, _⟩ :: _) _ _); refine doer_build rfl _ _ _ rfl a n c (k : Int) vs cm rfl rfl rfl hlv ?_))
 have h9 := HD.out w8 HB8.out
 have hLn9 := HLn8.out.alloc (.cells (rgA (doer0 a n c (k : Int) vs cm)) 223)
 have hRg9 := HRg8.out.alloc (.cells (rgA (doer0 a n c (k : Int) vs cm)) 223)
 have hFd9 := HFd8.out.alloc (.cells (rgA (doer0 a n c (k : Int) vs cm)) 223)
 have hC9 := HC8.out.alloc (.cells (rgA (doer0 a n c (k : Int) vs cm)) 223)
 have hZ9 := hZ8.alloc (.cells (rgA (doer0 a n c (k : Int) vs cm)) 223)
 have hb9 := HB8.out.alloc HB8.out.size (.cells (rgA (doer0 a n c (k : Int) vs cm)) 223)
 have hP5 : w.heap.size + 4 < w8.heap.size := hZ8.lt
 clear HB8 HLn8 HRg8 HFd8 HC8 hZ8 HD d0 d1 d2 d3 d4 p0 p1 l0 l1 hLn hRg hFd hCm hZ hbw hsz HE hal
 generalize (w8.alloc (.cells (rgA (doer0 a n c (k : Int) vs cm)) 223)) = w9 at *
 generalize w8.heap.size = P at *
 obtain ⟨p0, p1, -, -⟩ := Blk.two hLn9
 obtain ⟨q0, q1, -, -⟩ := Blk.two hFd9
 have hPw := h9.lt
 have CL := Lib.hid (fun (wx : World) (hb : Below w9.heap.size w9 wx) => slices_clone a n c t wx ((HR.out w9 hb9).below hb) HT.out (by omega) HN0.out)
 have H9 := Lib.hid h9
 have HB9 := Lib.hid hb9
 have HZ9 := Lib.hid hZ9; have HC9 := Lib.hid hC9; have HF9 := Lib.hid hFd9; have HG9 := Lib.hid hRg9; have HL9 := Lib.hid hLn9
 clear h9 hb9 hZ9 hC9 hFd9 hRg9 hLn9
 go_cut [9] (fun v wx => v = .int .i64 0 ∧ (∃ us, DI P wx us ⟨w, a, n, c, t, k, vs, X⟩ ⟨cm, t, k, nilX, fk, fa, 0, []⟩) ∧ Asd P w9 wx)
 case first =>
  refine wp_region_held_drew (S := (fun w' => w'.cell? ⟨w.heap.size, 0, none⟩ = some (.slice a n c) ∧ w'.cell? ⟨w.heap.size, 1, none⟩ = some (.int .i64 (k : Int)) ∧ w'.cell? ⟨w.heap.size + 1 + 1, 0, none⟩ = some (.int .i64 fk) ∧ w'.cell? ⟨w.heap.size + 1 + 1, 1, none⟩ = some (.int .i64 fa))) (by kernel_rfl) ⟨p0, p1, q0, q1⟩ ?_
  intro hSd
  refine wpAnyH_take (i := 0) (oi := ⟨some 34, .move (.tmp 11), _, _, _, _⟩) (v := (.pointer (some ⟨P, 0, none⟩))) rfl (by kernel_rfl) (by kernel_rfl) (by kernel_rfl) (fun _ _ _ h => h) (Or.inl ⟨by rfl, fun w hSw => by (dsimp only at hSw; go_simp)⟩) (by assumption) ?_
  simp only [Act.put, List.setIfInBounds_toArray, List.set_cons_zero, List.set_cons_succ]
  refine wpAnyH_take (i := 1) (oi := ⟨some 35, .fieldAddr 131 (.tmp 4) 0, _, _, _, _⟩) (v := (.pointer (some ⟨w.heap.size, 0, none⟩))) rfl (by kernel_rfl) (by kernel_rfl) (by kernel_rfl) (fun _ _ _ h => h) (Or.inl ⟨by rfl, fun w hSw => by (dsimp only at hSw; go_simp)⟩) (by assumption) ?_
  simp only [Act.put, List.setIfInBounds_toArray, List.set_cons_zero, List.set_cons_succ]
  refine wpAnyH_take (i := 2) (oi := ⟨some 36, .load 22 (.tmp 35), _, _, _, _⟩) (v := (.slice a n c)) rfl (by kernel_rfl) (by kernel_rfl) (by kernel_rfl) (fun _ _ _ h => h) (Or.inl ⟨by rfl, fun w hSw => by (dsimp only at hSw; go_simp)⟩) (by assumption) ?_
  simp only [Act.put, List.setIfInBounds_toArray, List.set_cons_zero, List.set_cons_succ]
  refine wpAnyH_take (i := 4) (oi := ⟨some 38, .fieldAddr 131 (.tmp 4) 1, _, _, _, _⟩) (v := (.pointer (some ⟨w.heap.size, 1, none⟩))) rfl (by kernel_rfl) (by kernel_rfl) (by kernel_rfl) (fun _ _ _ h => h) (Or.inl ⟨by rfl, fun w hSw => by (dsimp only at hSw; go_simp)⟩) (by assumption) ?_
  simp only [Act.put, List.setIfInBounds_toArray, List.set_cons_zero, List.set_cons_succ]
  refine wpAnyH_take (i := 5) (oi := ⟨some 39, .load 3 (.tmp 38), _, _, _, _⟩) (v := (.int .i64 (k : Int))) rfl (by kernel_rfl) (by kernel_rfl) (by kernel_rfl) (fun _ _ _ h => h) (Or.inl ⟨by rfl, fun w hSw => by (dsimp only at hSw; go_simp)⟩) (by assumption) ?_
  simp only [Act.put, List.setIfInBounds_toArray, List.set_cons_zero, List.set_cons_succ]
  refine wpAnyH_take (i := 7) (oi := ⟨some 41, .load 135 (.tmp 6), _, _, _, _⟩) (v := (.agg #[.int .i64 fk, .int .i64 fa])) rfl (by kernel_rfl) (by kernel_rfl) (by kernel_rfl) (fun _ _ _ h => h) (Or.inl ⟨by rfl, fun w hSw => by (dsimp only at hSw; go_simp)⟩) (by assumption) ?_
  simp only [Act.put, List.setIfInBounds_toArray, List.set_cons_zero, List.set_cons_succ]
  refine wpAnyH_ready (rs := [3]) (by kernel_rfl) (by simp) ?_
  refine AllReadyH.cons (o := ⟨some 37, _, _, _, _, _⟩) rfl (fun K hK => ?_) AllReadyH.nil
  go_simp
  refine (CL.out _ (Below.refl _ _).drew).mono ?_
  rintro e w10 ⟨v10, rfl, o10, hb10⟩
  obtain ⟨a10, n10, c10, rfl⟩ := o10.form
  obtain ⟨rs, hrs⟩ : ∃ rs, res0 (.slice a10 n10 c10) (k : Int) fk fa = rs := ⟨_, rfl⟩
  have ho10 := one_res0 (v := .slice a10 n10 c10) rfl (k : Int) fk fa
  have hl10 : (res0 (.slice a10 n10 c10) (k : Int) fk fa).length = 33 := rfl
  have h10 := H9.out.to ((Below.refl _ _).drew.trans hb10)
  have ht10 : w10.there P 34 33 := fun j hj => ⟨by rw [h10.cell (by omega)]; rfl, h10.free _⟩
  have H11 := Lib.hid (h10.setRes (s' := ⟨cm, t, k, nilX, fk, fa, 0, []⟩) _ (rsI_res0 (o10.mono hPw) cm k fk fa))
  rw [hrs] at ho10 hl10 H11
  have A10 := (Asd.of (P := P) ((Below.refl w9.heap.size w9).drew.trans hb10))
  have A11 := A10.trans (Asd.setCells (o := 34) rs)
  have e0 := A10.cell (by omega) p0
  have e1 := A10.cell (by omega) p1
  have e2 := A10.cell (by omega) q0
  have e3 := A10.cell (by omega) q1
  have g0 := A11.cell (by omega) p0
  have g1 := A11.cell (by omega) p1
  have g2 := A11.cell (by omega) q0
  have g3 := A11.cell (by omega) q1
  have HA11 := Lib.hid A11
  have HRS := Lib.hid hrs
  clear A11 A10 h10 hrs
  dsimp only
  refine hK.out _ _ ⟨e0, e1, e2, e3⟩ (fun hHeld => ?_)
  clear hK K
  refine wpAnyH_ready (rs := [6]) (by kernel_rfl) (by simp) ?_
  refine AllReadyH.cons (o := ⟨some 40, _, _, _, _, _⟩) rfl (fun K hK => ?_) AllReadyH.nil
  go_simp
  refine hK.out _ _ (by assumption) (fun hHeld => ?_)
  clear hK K
  refine wpAnyH_ready (rs := [8]) (by kernel_rfl) (by simp) ?_
  refine AllReadyH.cons (o := ⟨some 42, _, _, _, _, _⟩) rfl (fun K hK => ?_) AllReadyH.nil
  rw [if_pos (by rfl)]
  refine wp_build_res0 _ _ rfl a10 n10 c10 (k : Int) fk fa rfl rfl ?_
  rw [HRS.out]
  simp only [Act.put, List.setIfInBounds_toArray, List.set_cons_zero, List.set_cons_succ]
  refine hK.out _ _ (by assumption) (fun hHeld => ?_)
  clear hK K
  refine wpAnyH_take (i := 9) (oi := ⟨some 43, .nilCheck (.tmp 34), _, _, _, _⟩) (v := (.pointer (some ⟨P, 0, none⟩))) rfl (by kernel_rfl) (by kernel_rfl) (by kernel_rfl) (fun _ _ _ h => h) (Or.inl ⟨by rfl, fun w hSw => by (dsimp only at hSw; go_simp)⟩) (by assumption) ?_
  simp only [Act.put, List.setIfInBounds_toArray, List.set_cons_zero, List.set_cons_succ]
  refine wpAnyH_take (i := 10) (oi := ⟨some 44, .fieldAddr 223 (.tmp 43) 3, _, _, _, _⟩) (v := (.pointer (some ⟨P, 34, none⟩))) rfl (by kernel_rfl) (by kernel_rfl) (by kernel_rfl) (fun _ _ _ h => h) (Or.inl ⟨by rfl, fun w hSw => by (dsimp only at hSw; go_simp)⟩) (by assumption) ?_
  simp only [Act.put, List.setIfInBounds_toArray, List.set_cons_zero, List.set_cons_succ]
  refine wpAnyH_ready (rs := [11]) (by kernel_rfl) (by simp) ?_
  refine AllReadyH.cons (o := ⟨none, _, _, _, _, _⟩) rfl (fun K hK => ?_) AllReadyH.nil
  rw [if_pos (by rfl)]
  refine wp_store_res _ _ rfl P 34 rfl rs rfl ht10 hl10 ho10 ?_
  simp only [Act.put, List.setIfInBounds_toArray, List.set_cons_zero, List.set_cons_succ]
  refine hK.out _ _ ⟨g0, g1, g2, g3⟩ (fun hHeld => ?_)
  clear hK K
  refine wpAnyH_done (by kernel_rfl) ?_ _
  go_wp2
  go_meet
  exact ⟨rfl, ⟨_, H11.out⟩, HA11.out⟩
 obtain ⟨rfl, ⟨us1, h1⟩, hA1⟩ := hcut
 clear p0 p1
 go_wp2
 go_loopw [45] (fun i wr => ∃ j : Nat, i = .int .i64 (j : Int) ∧ j ≤ 27 ∧ (∃ us, DI P wr us ⟨w, a, n, c, t, k, vs, X⟩ ⟨cm, t, k, X.take j ++ nilX.drop j, fk, fa, 0, []⟩) ∧ Asd P w9 wr) (fun i _ => 27 - (intOf i).toNat)
 case atStart => exact ⟨0, rfl, by omega, ⟨us1, by simpa using h1⟩, hA1⟩
 case round =>
  obtain ⟨j, rfl, hj, ⟨us2, h2⟩, hA2⟩ := hrel
  by_cases hlt : j < 27
  ·obtain ⟨aj, nj, cj, hvj, hl, -, -, hi, h0⟩ := (h2.rg HI.out).sl j hlt
   dsimp only at hvj
   replace hl : (rx X j).length = nj := hl
   replace hi : Ints wr aj (rx X j) := hi
   have r0 := hA2.cell (b := w.heap.size + 1) (by omega) (HG9.out.cell (i := j) (by rw [hlv]; exact hlt))
   rw [hvj] at r0
   have hsm : (rx X j).length ≤ 1048576 := HI.out.small j hlt
   have CLJ := Lib.hid (slices_clone aj nj cj (rx X j) wr.drew (hi.drewN 1) hl (by omega) h0)
   have c36 := h2.cell (i := 36 + j) (by omega)
   have f36 := h2.free (36 + j)
   have H2 := Lib.hid h2; have HA2 := Lib.hid hA2
   have hPr := h2.lt
   have hBr : w.heap.size + 1 < wr.heap.size := cell_lt r0
   clear hi hl h0 hsm h2 hA2 hvj
   go_upto_region 11 with fail
   go_region_held3 (fun w' => w'.cell? ⟨w.heap.size + 1, j, none⟩ = some (.slice aj nj cj)) (first | exact r0 | (with_reducible assumption) | exact e0 | exact g0) (first | (go_at_call 98; go_loud (refine (CLJ.out).mono ?_; rintro e w10 ⟨v10, rfl, o10, hb10⟩; obtain ⟨a10, n10, c10, rfl⟩ := o10.form; have h10 := H2.out.to ((Below.refl _ _).drew.trans hb10); have A10 := Asd.of (P := P) ((Below.refl wr.heap.size wr).drew.trans hb10); have e0 := A10.cell (by omega) r0; have A11 := A10.trans (Asd.set (P := P) (i := 36 + j) (.slice a10 n10 c10)); have g0 := A11.cell (by omega) r0; have c37 := h10.cell (i := 36 + j) (by omega); have f37 := h10.free (36 + j); have H11 := Lib.hid (h10.setReg j hlt _ _ (o10.mono (Nat.succ_le_of_lt hPr))); have HA11 := Lib.hid (HA2.out.trans A11); clear h10 A10 A11)))
   all_goals
    go_wp2
    go_roundw
    case rel => exact ⟨j + 1, by go_num, by omega, ⟨_, by rw [← take_set27 hX27 hlt]; exact H11.out⟩, HA11.out⟩
    case measure => simp [intOf]; omega
  ·obtain rfl : j = 27 := by omega
   rw [take_all27 hX27] at h2
   have q2 := hA2.cell (b := w.heap.size + 2) (by omega) q0
   obtain ⟨d0, d1, d2, d3, d4⟩ := Blk.five (hA2.blk (B := w.heap.size + 3) (by omega) HC9.out)
   have hZr := hA2.blk (B := w.heap.size + 4) (by omega) HZ9.out
   have HBr := Lib.hid (show Below w.heap.size w wr from h2.bel)
   have H2 := Lib.hid h2
   have hna : ¬ (cm.a < 0 ∨ 999 < cm.a) := by omega
   have HNA := Lib.hid hna
   clear h2 hA2 q0 q1 hna d0 d1 d3 d4 HR CL HT
   by_cases hfk : fk = 0 ∨ fiB fk = true
   ·have HF := Lib.hid hfk
    have hds : fk = 0 ∨ fk = 102 ∨ fk = 70 ∨ fk = 116 ∨ fk = 84 := by simpa [fiB] using hfk
    clear hfk
    by_cases hop : opOk cm.c = true
    ·have HOP := Lib.hid hop
     have hos : cm.c = 0 ∨ cm.c = 100 ∨ cm.c = 99 ∨ cm.c = 121 := by simpa [opOk] using hop
     clear hop
     have CO := doer_one P us2 ⟨w, a, n, c, t, k, vs, X⟩ HI.out ⟨cm, t, k, X, fk, fa, 0, []⟩ wr H2.out hc0 hc1 HF.out
     obtain ⟨r1, r2, hr⟩ : ∃ r1 r2, doS ⟨w, a, n, c, t, k, vs, X⟩ ⟨lgC cm, t, k, X, fk, fa, 0, []⟩ = (r1, r2) := ⟨_, _, rfl⟩
     dsimp only at CO
     rw [hr] at CO
     have HCO := Lib.hid CO
     have hdo : doR ⟨w, a, n, c, t, k, vs, X⟩ cm fk fa = if r1 ≠ 0 then (r1, zSt cm) else (0, r2) := by
      unfold doR
      rw [if_neg HNA.out, if_neg (fun h => h HF.out), if_neg (by rw [HOP.out]; decide), hr]
     have HDO := Lib.hid hdo
     clear CO hr hdo
     go_upto_block 2 with fail
     go_cut [62] (fun v wx => v = .bool true ∧ wr = wx)
     case first =>
      rcases hds with rfl | rfl | rfl | rfl | rfl
      all_goals
       go_wp2
       go_meet
       exact ⟨rfl, rfl⟩
     obtain ⟨rfl, rfl⟩ := hcut
     clear hds q2
     go_upto_block 3 with fail
     go_cut [71] (fun v wx => v = .bool true ∧ wr = wx)
     case first =>
      rcases hos with e | e | e | e
      ·have x0 : (cm.c == 0) = true := by rw [e]; rfl
       have x1 : (cm.c == 100) = false := by rw [e]; rfl
       have x2 : (cm.c == 99) = false := by rw [e]; rfl
       have x3 : (cm.c == 121) = false := by rw [e]; rfl
       clear e
       go_wp2
       go_meet
       exact ⟨rfl, rfl⟩
      ·have x0 : (cm.c == 0) = false := by rw [e]; rfl
       have x1 : (cm.c == 100) = true := by rw [e]; rfl
       have x2 : (cm.c == 99) = false := by rw [e]; rfl
       have x3 : (cm.c == 121) = false := by rw [e]; rfl
       clear e
       go_wp2
       go_meet
       exact ⟨rfl, rfl⟩
      ·have x0 : (cm.c == 0) = false := by rw [e]; rfl
       have x1 : (cm.c == 100) = false := by rw [e]; rfl
       have x2 : (cm.c == 99) = true := by rw [e]; rfl
       have x3 : (cm.c == 121) = false := by rw [e]; rfl
       clear e
       go_wp2
       go_meet
       exact ⟨rfl, rfl⟩
      ·have x0 : (cm.c == 0) = false := by rw [e]; rfl
       have x1 : (cm.c == 100) = false := by rw [e]; rfl
       have x2 : (cm.c == 99) = false := by rw [e]; rfl
       have x3 : (cm.c == 121) = true := by rw [e]; rfl
       clear e
       go_wp2
       go_meet
       exact ⟨rfl, rfl⟩
     obtain ⟨rfl, rfl⟩ := hcut
     clear hos d2
     by_cases hz : r1 = 0
     ·subst hz
      go_wp2_with (first | (go_at_call 140; go_loud (refine (HCO.out).mono ?_; rintro e w3 ⟨rfl, ⟨us3, h3⟩, hA3⟩; have hZ3 := hA3.blk (B := w.heap.size + 4) (by omega) hZr; have HB3 := Lib.hid (show Below w.heap.size w w3 from h3.bel); have hl3 := resU_len h3.lu; have hr3 := h3.res.left (left_setCells w3 (w.heap.size + 4) 0 (resU us3)) (by omega); have hg3 := h3.rngRes; have ho3 := h3.res.one; generalize resU us3 = rs at hl3 hr3 hg3 ho3; clear h3 hA3)) | ((with_reducible show wpList _ _ _ (⟨_, Op.load _ _, _, _, _, _⟩ :: _) _ _); refine res_load rfl _ rfl P 34 rfl rs hg3 hl3 ?_) | ((with_reducible show wpList _ _ _ (⟨none, Op.store _ _ _, _, _, _, _⟩ :: _) _ _); refine res_store rfl _ _ rfl (w.heap.size + 4) 0 rfl rs rfl zero33 _ hZ3 (Nat.le_refl 33) hl3 ho3 ?_; have hz9 := zero_store hZ3 zero33_len HB3.out (by omega) rs hl3; generalize w3.setCells (w.heap.size + 4) 0 rs = w9' at hz9 hr3 ⊢))
      rw [HDO.out, if_neg (by simp)]
      exact bodyPost_ret (results_ct Try.results83 rfl (res_loadVar hz9.1 hl3)) rfl ⟨rs, rfl, hr3.mono (by omega), hz9.2⟩
     ·have nz : (r1 != 0) = true := by simpa using hz
      have HZ := Lib.hid hz
      clear hz
      go_wp2_with (first | (go_at_call 140; go_loud (refine (HCO.out).mono ?_; rintro e w3 ⟨rfl, ⟨us3, h3⟩, hA3⟩; have hZ3 := hA3.blk (B := w.heap.size + 4) (by omega) hZr; have HB3 := Lib.hid (show Below w.heap.size w w3 from h3.bel); clear h3 hA3)) | ((with_reducible show wpList _ _ _ (⟨none, Op.store _ _ _, _, _, _, _⟩ :: _) _ _); go_loud (refine res_store rfl _ _ rfl (w.heap.size + 4) 0 rfl zero33 rfl zero33 _ hZ3 (Nat.le_refl 33) rfl one_zero33 ?_; have hz9 := zero_store hZ3 zero33_len HB3.out (by omega) zero33 rfl; generalize w3.setCells (w.heap.size + 4) 0 zero33 = w9 at hz9 ⊢)))
      rw [HDO.out, if_pos HZ.out]
      exact bodyPost_ret (results_ct Try.results83 rfl (res_loadVar hz9.1 zero33_len)) rfl ⟨zero33, rfl, rsI_zero _ _ _, hz9.2⟩
    ·have hdo : doR ⟨w, a, n, c, t, k, vs, X⟩ cm fk fa = (9, zSt cm) := by
      unfold doR
      rw [if_neg HNA.out, if_neg (fun h => h HF.out), if_pos (by simpa using hop)]
     have HDO := Lib.hid hdo
     have hos : ¬ (cm.c = 0 ∨ cm.c = 100 ∨ cm.c = 99 ∨ cm.c = 121) := by simpa [opOk] using hop
     have x0 : (cm.c == 0) = false := by simp; omega
     have x1 : (cm.c == 100) = false := by simp; omega
     have x2 : (cm.c == 99) = false := by simp; omega
     have x3 : (cm.c == 121) = false := by simp; omega
     clear hdo hop hos
     go_upto_block 2 with fail
     go_cut [62] (fun v wx => v = .bool true ∧ wr = wx)
     case first =>
      rcases hds with rfl | rfl | rfl | rfl | rfl
      all_goals
       go_wp2
       go_meet
       exact ⟨rfl, rfl⟩
     obtain ⟨rfl, rfl⟩ := hcut
     clear hds q2
     go_wp2_with ((with_reducible show wpList _ _ _ (⟨none, Op.store _ _ _, _, _, _, _⟩ :: _) _ _); go_loud (refine res_store rfl _ _ rfl (w.heap.size + 4) 0 rfl zero33 rfl zero33 _ hZr (Nat.le_refl 33) rfl one_zero33 ?_; have hz9 := zero_store hZr zero33_len HBr.out (by omega) zero33 rfl; generalize wr.setCells (w.heap.size + 4) 0 zero33 = w9 at hz9 ⊢))
     rw [HDO.out]
     exact bodyPost_ret (results_ct Try.results83 rfl (res_loadVar hz9.1 zero33_len)) rfl ⟨zero33, rfl, rsI_zero _ _ _, hz9.2⟩
   ·have hdo : doR ⟨w, a, n, c, t, k, vs, X⟩ cm fk fa = (1, zSt cm) := by
     unfold doR
     rw [if_neg HNA.out, if_pos hfk]
    have HDO := Lib.hid hdo
    have hds : ¬ (fk = 0 ∨ fk = 102 ∨ fk = 70 ∨ fk = 116 ∨ fk = 84) := by simpa [fiB] using hfk
    have x0 : (fk == 0) = false := by simp; omega
    have x1 : (fk == 102) = false := by simp; omega
    have x2 : (fk == 70) = false := by simp; omega
    have x3 : (fk == 116) = false := by simp; omega
    have x4 : (fk == 84) = false := by simp; omega
    clear hdo hfk hds
    go_wp2_with ((with_reducible show wpList _ _ _ (⟨none, Op.store _ _ _, _, _, _, _⟩ :: _) _ _); go_loud (refine res_store rfl _ _ rfl (w.heap.size + 4) 0 rfl zero33 rfl zero33 _ hZr (Nat.le_refl 33) rfl one_zero33 ?_; have hz9 := zero_store hZr zero33_len HBr.out (by omega) zero33 rfl; generalize wr.setCells (w.heap.size + 4) 0 zero33 = w9 at hz9 ⊢))
    rw [HDO.out]
    exact bodyPost_ret (results_ct Try.results83 rfl (res_loadVar hz9.1 zero33_len)) rfl ⟨zero33, rfl, rsI_zero _ _ _, hz9.2⟩
structure RdS (w : World) (rs : List Value) (s : St) : Prop where
 lr : rs.length = 33
 o : Sl w (vx rs 0) s.O
 p : vx rs 1 = .int .i64 s.p
 ly : s.Y.length = 27
 y : ∀ i, i < 27 → Sl w (vx rs (2 + i)) (rx s.Y i)
 f1 : vx rs 29 = .int .i64 s.fk
 f2 : vx rs 30 = .int .i64 s.fa
 m : vx rs 31 = .int .i64 s.md
 e : ∃ a c, vx rs 32 = .slice a s.es.length c ∧ Spls w a s.es ∧ s.es.length ≤ 9223372036854775807
def RdPost (er : Int) (s : St) (w : World) (e : Ending) (w' : World) : Prop := ∃ rs, e = .returned (.tuple #[.agg (rgA rs), .int .i64 er]) ∧ RdS w' rs s ∧ Below w.heap.size w w'
theorem spl_rd {base : Nat} {w : World} {v : Value} {es : List Sp} (h : ∃ ws, SOwn base w v ws es) : ∃ a c, v = .slice a es.length c ∧ Spls w a es ∧ es.length ≤ 9223372036854775807 := by
 obtain ⟨ws, h⟩ := h
 obtain ⟨a, c, rfl, h1, h2, -⟩ := h.form
 exact ⟨a, c, rfl, h.spls, by omega⟩
theorem RsI.rd {base : Nat} {w : World} {rs : List Value} {s : St} (h : RsI base w rs s) : RdS w rs s :=
 ⟨h.lr, h.o.sl, h.p, h.ly, fun i hi => (h.y i hi).sl, h.f1, h.f2, h.m, spl_rd h.e⟩
theorem RsQ.rd {I : In} (hI : InOk I) {base : Nat} {w : World} {rs : List Value} {s : St} (h : RsQ I base w rs s) (hb : Below I.w0.heap.size I.w0 w) : RdS w rs s :=
 ⟨h.lr, h.o.sl hI hb, h.p, h.ly, fun i hi => (h.y i hi).sl hI hb, h.f1, h.f2, h.m, spl_rd h.e⟩
theorem DoPost.rd {er : Int} {s : St} {w : World} {e : Ending} {w' : World} (h : DoPost er s w e w') : RdPost er s w e w' := by
 obtain ⟨rs, h1, h2, h3⟩ := h
 exact ⟨rs, h1, h2.rd, h3⟩
theorem RdS.zst {c1 c2 : C5} {w : World} {rs : List Value} (h : RdS w rs (zSt c1)) : RdS w rs (zSt c2) := ⟨h.lr, h.o, h.p, h.ly, h.y, h.f1, h.f2, h.m, h.e⟩
theorem ResPost.rd {I : In} (hI : InOk I) {er : Int} {s : St} {e : Ending} {w' : World} (h : ResPost I er s I.w0 e w') : RdPost er s I.w0 e w' := by
 obtain ⟨rs, h1, h2, h3⟩ := h
 exact ⟨rs, h1, h2.rd hI h3, h3⟩
theorem lgC_a (cm : C5) : (lgC cm).a = cm.a := by
 unfold lgC shC
 split
 ·rfl
 ·split <;> rfl
theorem shK_op2 {v p q : Int} (h : shK v = some (p, q)) : p = 100 ∨ p = 99 ∨ p = 121 := by
 unfold shK at h
 repeat' split at h
 all_goals first | (cases h; done) | (simp only [Option.some.injEq, Prod.mk.injEq] at h; omega)
theorem lgC_op2 {cm : C5} (h : opOk cm.c = true) : (lgC cm).c = 0 ∨ (lgC cm).c = 100 ∨ (lgC cm).c = 99 ∨ (lgC cm).c = 121 := by
 have h1 : cm.c = 0 ∨ cm.c = 100 ∨ cm.c = 99 ∨ cm.c = 121 := by simpa [opOk] using h
 unfold lgC shC
 split
 ·exact h1
 ·split
  ·rename_i p q hk; exact .inr (shK_op2 hk)
  ·exact h1
theorem goE_some {l : List Int} {k key count arg : Int} {op : Bool} (hE : moveE l k key count = 0) (h : goE l k key count arg op = 0) : ∃ b, moS l k.toNat key (max 1 count) arg op = some (goA l k key count arg op, b) := by
 rw [goE, if_pos hE] at h
 rw [goA, if_pos hE]
 rcases hm : moS l k.toNat key (max 1 count) arg op with _ | ⟨x, b⟩
 ·rw [hm] at h; exact absurd h (by decide)
 ·exact ⟨b, rfl⟩
theorem goE_none {l : List Int} {k key count arg : Int} {op : Bool} (hE : moveE l k key count = 0) (h : goE l k key count arg op ≠ 0) : moS l k.toNat key (max 1 count) arg op = none := by
 rw [goE, if_pos hE] at h
 rcases hm : moS l k.toNat key (max 1 count) arg op with _ | ⟨x, b⟩
 ·rfl
 ·rw [hm] at h; exact absurd rfl h
theorem plS_cm (I : In) (s : St) : (plS I s).2.cm = s.cm := by
 unfold plS psS chS putS
 repeat' split
 all_goals rfl
theorem plS_len {I : In} (hI : InOk I) {s : St} (hs : s.O = I.t) (h : (plS I s).1 = 0) : (plS I s).2.O.length ≤ 4096 := by
 have h1 := hI.len; have h2 := hI.top
 have hch : ∀ m f, (chS I s m f).O.length ≤ 4096 := by
  intro m f
  simp only [chS, putS, chL, List.length_append, List.length_map, List.length_take, List.length_drop]
  omega
 have hps : ∀ i, (psS I s i).1 = 0 → (psS I s i).2.O.length ≤ 4096 := by
  intro i h
  unfold psS at h ⊢
  split at h
  ·rename_i hg; exact absurd h hg
  rename_i hg
  rw [if_neg hg]
  split at h
  ·exact absurd (show (2 : Int) = 0 from h) (by decide)
  rename_i hl
  rw [if_neg hl]
  have : (repS (getYs I.X s.cm.b) (max 1 s.cm.a).toNat).length ≤ 200 := by
   rw [repS_length, Nat.mul_comm]
   have e : (((max 1 s.cm.a).toNat * (getYs I.X s.cm.b).length : Nat) : Int) = max 1 s.cm.a * ((getYs I.X s.cm.b).length : Int) := by
    rw [Int.natCast_mul, Int.toNat_of_nonneg (by omega)]
   omega
  simp only [putS, List.length_append, List.length_take, List.length_drop]
  omega
 unfold plS at h ⊢
 repeat' split
 all_goals first
  | (exact hps _ (by simpa [*] using h); done)
  | (exact hch _ _; done)
  | (show s.O.length ≤ 4096; rw [hs]; omega)
theorem ref_do (I : In) (hI : InOk I) (cm : C5) (fk fa : Int) :
  Calls Try.prog 84 #[.agg #[.slice I.a I.n I.c, .int .i64 (I.k : Int)], .agg (rgA I.vs), .agg #[.int .i64 fk, .int .i64 fa], .agg #[.int .i64 cm.a, .int .i64 cm.b, .int .i64 cm.c, .int .i64 cm.d, .int .i64 cm.e]] I.w0 (RdPost (doR I cm fk fa).1 (doR I cm fk fa).2 I.w0) := by
 have htop := hI.top; have hk1 := hI.k1; have hlen := hI.len
 have hE : lnE I.n I.k = 0 := by
  unfold lnE
  rw [if_neg (by omega), if_neg (by omega)]
 by_cases c1 : cm.a < 0 ∨ 999 < cm.a
 ·rw [show doR I cm fk fa = (1, zSt cm) by rw [doR, if_pos c1]]
  exact (ref_do_cnt I.a I.n I.c I.k fk fa I.vs cm I.w0 hE (by omega)).mono fun _ _ h => h.rd
 by_cases c2 : ¬ (fk = 0 ∨ fiB fk = true)
 ·rw [show doR I cm fk fa = (1, zSt cm) by rw [doR, if_neg c1, if_pos c2]]
  exact (ref_do_cnt I.a I.n I.c I.k fk fa I.vs cm I.w0 hE (.inr (.inr c2))).mono fun _ _ h => h.rd
 have c2 : fk = 0 ∨ fiB fk = true := Classical.not_not.1 c2
 by_cases c3 : opOk cm.c = false
 ·rw [show doR I cm fk fa = (9, zSt cm) by rw [doR, if_neg c1, if_neg (fun h => h c2), if_pos c3]]
  exact (ref_do_nine I.a I.n I.c I.k fk fa I.vs cm I.w0 hE (by omega) (by omega) c2 c3).mono fun _ _ h => h.rd
 have c3' : opOk cm.c = true := by simpa using c3
 obtain ⟨cl, hcl⟩ : ∃ cl, lgC cm = cl := ⟨_, rfl⟩
 have hca := lgC_a cm
 have hcc := lgC_op2 c3'
 rw [hcl] at hca hcc
 have hR : doR I cm fk fa = if (doS I ⟨cl, I.t, I.k, I.X, fk, fa, 0, []⟩).1 ≠ 0 then ((doS I ⟨cl, I.t, I.k, I.X, fk, fa, 0, []⟩).1, zSt cm) else (0, (doS I ⟨cl, I.t, I.k, I.X, fk, fa, 0, []⟩).2) := by
  rw [doR, if_neg c1, if_neg (fun h => h c2), if_neg c3, hcl]
 have fin : ∀ (er : Int) (s' : St), (doS I ⟨cl, I.t, I.k, I.X, fk, fa, 0, []⟩).1 = er → (er = 0 → (doS I ⟨cl, I.t, I.k, I.X, fk, fa, 0, []⟩).2 = s') → ∀ e w', ResPost I er (if er = 0 then s' else zSt cl) I.w0 e w' → RdPost (doR I cm fk fa).1 (doR I cm fk fa).2 I.w0 e w' := by
  intro er s' e1 e2 e w' h
  have h := ResPost.rd hI h
  rw [hR, e1]
  by_cases hz : er = 0
  ·rw [if_pos hz] at h
   rw [if_neg (by simpa using hz), e2 hz]
   rw [hz] at h
   exact h
  ·rw [if_neg hz] at h
   rw [if_pos hz]
   obtain ⟨rs, h1, h2, h3⟩ := h
   exact ⟨rs, h1, h2.zst, h3⟩
 by_cases d0 : cl.c ≠ 0
 ·obtain ⟨er, s', h1, h2, h3, h4⟩ := ref_operated I hI cl (by omega) (by omega) (by omega) fk fa c2
  exact (ref_do_op I hI fk fa cm cl hcl (by omega) (by omega) c2 c3' d0 er s' h3 h4).mono (fin er _ h1 h2)
 have d0 : cl.c = 0 := Classical.not_not.1 d0
 by_cases d1 : motB cl.d = true
 ·have e0 : doS I ⟨cl, I.t, I.k, I.X, fk, fa, 0, []⟩ = mvS I ⟨cl, I.t, I.k, I.X, fk, fa, 0, []⟩ := by
   unfold doS
   dsimp only
   rw [if_pos d1]
  have hmt : ∀ w1, Calls Try.prog 145 #[.agg #[.int .i64 fk, .int .i64 fa], .agg #[.int .i64 cl.a, .int .i64 cl.b, .int .i64 cl.c, .int .i64 cl.d, .int .i64 cl.e]] w1 (MtPost (mtK fk cl.d) cl.a (mtA fk fa cl.d cl.e) (mtE fk cl.d) w1) := fun w1 => ref_meant fk fa cl w1
  by_cases hm : mtE fk cl.d = 0
  ·have hmv := meant_moveE (t := I.t) (k := I.k) (cnt := cl.a) d1 c2 hm (by omega) (by omega) (by omega) (by omega)
   rw [hm] at hmt
   have hgo := fun w1 hT => ref_go I.a I.n I.c I.t I.k (mtK fk cl.d) cl.a (mtA fk fa cl.d cl.e) false w1 hT hlen hmv
   by_cases hg : goE I.t I.k (mtK fk cl.d) cl.a (mtA fk fa cl.d cl.e) false = 0
   ·obtain ⟨b, hb⟩ := goE_some hmv hg
    rw [hb] at hgo
    have e1 : doS I ⟨cl, I.t, I.k, I.X, fk, fa, 0, []⟩ = (0, ⟨cl, I.t, goA I.t I.k (mtK fk cl.d) cl.a (mtA fk fa cl.d cl.e) false, I.X, lkV fk cl.d, laV fa cl.d cl.e, 0, []⟩) := by
     rw [e0]
     unfold mvS
     dsimp only
     rw [if_neg (by simpa using hm), if_pos d0, if_neg (by simpa using hg)]
    refine (ref_do_mg I hI fk fa cm cl hcl (by omega) (by omega) c2 c3' d0 d1 (mtK fk cl.d) (mtA fk fa cl.d cl.e) 0 (goA I.t I.k (mtK fk cl.d) cl.a (mtA fk fa cl.d cl.e) false) b rfl hmt (fun w1 hT => (hgo w1 hT).mono ?_)).mono (fin 0 _ (by rw [e1]) fun _ => by rw [e1]; simp only [bt_self])
    rintro e w' ⟨x', b', rfl, hx, hb'⟩
    have := hx _ rfl
    simp only [Prod.mk.injEq] at this
    obtain ⟨rfl, rfl⟩ := this
    exact ⟨rfl, hb'⟩
   ·rw [goE_none hmv hg] at hgo
    have e1 : (doS I ⟨cl, I.t, I.k, I.X, fk, fa, 0, []⟩).1 = 5 := by
     rw [e0]
     unfold mvS
     dsimp only
     rw [if_neg (by simpa using hm), if_pos d0, if_pos hg]
     exact goE_five hmv hg
    refine (ref_do_mf I hI fk fa cm cl hcl (by omega) (by omega) c2 c3' d0 d1 (mtK fk cl.d) (mtA fk fa cl.d cl.e) 5 rfl hmt (fun w1 hT => (hgo w1 hT).mono ?_)).mono (fin 5 _ e1 fun h => absurd h (by decide))
    rintro e w' ⟨x', b', rfl, -, hb'⟩
    exact ⟨x', b', rfl, hb'⟩
  ·have e1 : (doS I ⟨cl, I.t, I.k, I.X, fk, fa, 0, []⟩).1 = mtE fk cl.d := by
    rw [e0]
    unfold mvS
    dsimp only
    rw [if_pos hm]
   exact (ref_do_mn I hI fk fa cm cl hcl (by omega) (by omega) c2 c3' d0 d1 (mtK fk cl.d) (mtA fk fa cl.d cl.e) (mtE fk cl.d) hm hmt).mono (fin _ _ e1 fun h => absurd h hm)
 ·have e0 : doS I ⟨cl, I.t, I.k, I.X, fk, fa, 0, []⟩ = plS I ⟨cl, I.t, I.k, I.X, fk, fa, 0, []⟩ := by
   unfold doS
   dsimp only
   rw [if_neg d1, if_pos d0]
  obtain ⟨md, p, O, h1, h2⟩ := ref_simple I hI cl (by omega) (by omega) ⟨cl, I.t, I.k, I.X, fk, fa, 0, []⟩ rfl rfl rfl rfl
  have hlt : (plS I ⟨cl, I.t, I.k, I.X, fk, fa, 0, []⟩).1 = 0 → O.length ≤ 4096 := fun hz => by rw [← (h1 hz).2.2.1]; exact plS_len hI rfl hz
  refine (ref_do_simple I hI fk fa cm cl hcl (by omega) (by omega) c2 c3' d0 (by simpa using d1) (plS I ⟨cl, I.t, I.k, I.X, fk, fa, 0, []⟩).1 md p O hlt h2).mono (fin _ _ (by rw [e0]) fun hz => ?_)
  obtain ⟨g1, g2, g3, g4, g5, g6, g7⟩ := h1 hz
  have g0 := plS_cm I ⟨cl, I.t, I.k, I.X, fk, fa, 0, []⟩
  have g8 : (plS I ⟨cl, I.t, I.k, I.X, fk, fa, 0, []⟩).2.es = btF I.t O := by
   rcases g7 with h | ⟨h, rfl⟩
   ·exact h
   ·rw [h, bt_self]
  rw [e0]
  generalize (plS I ⟨cl, I.t, I.k, I.X, fk, fa, 0, []⟩).2 = r at *
  obtain ⟨⟩ := r
  dsimp only at g0 g1 g2 g3 g4 g5 g6 g8
  simp only [g0, g1, g2, g3, g4, g5, g6, g8]
theorem prog_do (I : In) (hI : InOk I) (cm : C5) (fk fa : Int) :
  Calls Try.prog 83 #[.agg #[.slice I.a I.n I.c, .int .i64 (I.k : Int)], .agg (rgA I.vs), .agg #[.int .i64 fk, .int .i64 fa], .agg #[.int .i64 cm.a, .int .i64 cm.b, .int .i64 cm.c, .int .i64 cm.d, .int .i64 cm.e]] I.w0 (RdPost (doR I cm fk fa).1 (doR I cm fk fa).2 I.w0) := by
 have htop := hI.top; have hk1 := hI.k1
 by_cases c1 : cm.a < 0 ∨ 999 < cm.a
 ·rw [show doR I cm fk fa = (1, zSt cm) by rw [doR, if_pos c1]]
  exact (do_cnt I.a I.n I.c I.k fk fa I.vs cm I.w0 (by unfold lnE; rw [if_neg (by omega), if_neg (by omega)]) c1).mono fun _ _ h => h.rd
 ·exact (do_main I hI fk fa cm (by omega) (by omega)).mono fun _ _ h => h.rd
set_option maxRecDepth 100000 in
theorem ref_sameLine (a1 a2 : Option Addr) (n1 n2 c1 c2 : Nat) (xs : List Int) (p : Int) (w : World) (h1 : Ints w a1 xs) (h2 : Ints w a2 xs) (e1 : xs.length = n1) (e2 : xs.length = n2) (hx : n1 ≤ 9223372036854775807) :
  Calls Try.prog 85 #[.agg #[.slice a1 n1 c1, .int .i64 p], .agg #[.slice a2 n2 c2, .int .i64 p]] w fun e w' => e = .returned (.bool true) ∧ Below w.heap.size w w' := by
 have E1 := Lib.hid e1; have E2 := Lib.hid e2; clear e1 e2
 have hb2 := below2 w (.cells #[.slice a1 n1 c1, .int .i64 p] 131) (.cells #[.slice a2 n2 c2, .int .i64 p] 131)
 have h1 := h1.below hb2; have h2 := h2.below hb2
 go_enter Try.func85, Try.ntmps85
 go_wp2_with fail
 refine (slices_same a1 a2 n1 n2 c1 c2 xs _ h1 h2 E1.out E2.out hx).mono ?_
 rintro e w' ⟨rfl, nd, rfl⟩
 go_wp2
 go_ret
 exact ⟨rfl, below_drewN hb2 _⟩
def TruePost (w : World) (e : Ending) (w' : World) : Prop := e = .returned (.bool true) ∧ Below w.heap.size w w'
set_option maxRecDepth 100000 in
theorem same_spl (f t : Int) (a b : Option Addr) (n ca cb : Nat) (x : List Int) (w : World) (ha : Ints w a x) (hb : Ints w b x) (hn : x.length = n) (hc : n ≤ ca) (hc2 : ca ≤ 9223372036854775807) :
  Calls Try.prog 150 #[.agg #[.int .i64 f, .int .i64 t, .slice a n ca], .agg #[.int .i64 f, .int .i64 t, .slice b n cb]] w (TruePost w) := by
 have HN := Lib.hid hn
 clear hn
 have hA := (Blk.new w #[.int .i64 f, .int .i64 t, .slice a n ca] 237).alloc (.cells #[.int .i64 f, .int .i64 t, .slice b n cb] 237)
 have hB := Blk.new (w.alloc (.cells #[.int .i64 f, .int .i64 t, .slice a n ca] 237)) #[.int .i64 f, .int .i64 t, .slice b n cb] 237
 rw [World.size_alloc] at hB
 have hacc := below2 w (.cells #[.int .i64 f, .int .i64 t, .slice a n ca] 237) (.cells #[.int .i64 f, .int .i64 t, .slice b n cb] 237)
 have h1 := ha.below hacc
 have h2 := hb.below hacc
 go_enter Try.func150, Try.ntmps150
 go_upto_region 1 with fail
 generalize (w.alloc (.cells #[.int .i64 f, .int .i64 t, .slice a n ca] 237)).alloc (.cells #[.int .i64 f, .int .i64 t, .slice b n cb] 237) = w1 at *
 obtain ⟨c0, c1, c2, -⟩ := hA.three
 obtain ⟨d0, d1, d2, -⟩ := hB.three
 go_wp2_with fail
 refine (slices_same a b n n ca cb x w1 h1 h2 HN.out HN.out (by omega)).mono ?_
 rintro e w2 ⟨rfl, q, rfl⟩
 go_wp2
 go_ret
 exact ⟨rfl, below_drewN hacc q⟩
set_option maxRecDepth 100000 in
theorem same_edits (a b : Option Addr) (m ca cb : Nat) (es : List Sp) (w : World) (ha : Spls w a es) (hb : Spls w b es) (hm : es.length = m) (hm2 : m ≤ 9223372036854775807) :
  Calls Try.prog 149 #[.slice a m ca, .slice b m cb, .func (.func 150) #[] #[]] w (TruePost w) := by
 have HM := Lib.hid hm
 clear hm
 go_enter Try.func149, Try.ntmps149
 go_wp2
 go_loopw [17] (fun i wr => ∃ k : Nat, i = .int .i64 (k : Int) ∧ k ≤ m ∧ Below w.heap.size w wr) (fun i _ => m - (intOf i).toNat)
 case atStart => exact ⟨0, rfl, by omega, Below.refl _ _⟩
 case round =>
  obtain ⟨k, rfl, hk, hbr⟩ := hrel
  by_cases hlt : k < m
  ·obtain ⟨b1, o1, rfl, hc1⟩ := ha.at (k := k) (by rw [HM.out]; exact hlt)
   obtain ⟨b2, o2, rfl, hc2⟩ := hb.at (k := k) (by rw [HM.out]; exact hlt)
   obtain ⟨ax, cx, c0, c1, c2, cI, y1, y2, y3⟩ := hc1 k (by rw [HM.out]; exact hlt)
   obtain ⟨bx, dx, d0, d1, d2, dI, -⟩ := hc2 k (by rw [HM.out]; exact hlt)
   replace c0 := below_keeps hbr _ _ c0
   replace c1 := below_keeps hbr _ _ c1
   replace c2 := below_keeps hbr _ _ c2
   replace d0 := below_keeps hbr _ _ d0
   replace d1 := below_keeps hbr _ _ d1
   replace d2 := below_keeps hbr _ _ d2
   replace cI := cI.below hbr
   replace dI := dI.below hbr
   generalize sp es k = s at *
   obtain ⟨f, t, x⟩ := s
   simp only at c0 c1 c2 cI y1 y2 y3 d0 d1 d2 dI
   have i1 : (k : Int) < (m : Int) := by omega
   have b1x := below1 wr (.cells #[.int .i64 f, .int .i64 t, .slice ax x.length cx] 237)
   go_upto_region 6 with fail
   replace hbr := below_then hbr hbr.size b1x
   replace d0 := below_keeps b1x _ _ d0
   replace d1 := below_keeps b1x _ _ d1
   replace d2 := below_keeps b1x _ _ d2
   replace cI := cI.below b1x
   replace dI := dI.below b1x
   have hA := Blk.new wr #[.int .i64 f, .int .i64 t, .slice ax x.length cx] 237
   clear c0 c1 c2 b1x
   generalize wr.alloc (.cells #[.int .i64 f, .int .i64 t, .slice ax x.length cx] 237) = w1 at *
   have b2x := below1 w1 (.cells #[.int .i64 f, .int .i64 t, .slice bx x.length dx] 237)
   go_upto_region 7 with fail
   replace hbr := below_then hbr hbr.size b2x
   replace cI := cI.below b2x
   replace dI := dI.below b2x
   have hB := Blk.new w1 #[.int .i64 f, .int .i64 t, .slice bx x.length dx] 237
   replace hA := hA.alloc (.cells #[.int .i64 f, .int .i64 t, .slice bx x.length dx] 237)
   clear d0 d1 d2 b2x
   generalize w1.alloc (.cells #[.int .i64 f, .int .i64 t, .slice bx x.length dx] 237) = w3 at *
   obtain ⟨c0, c1, c2, -⟩ := hA.three
   obtain ⟨d0, d1, d2, -⟩ := hB.three
   go_wp2_with (go_at_call 150; refine (same_spl f t ax bx x.length cx dx x _ cI dI rfl y1 y2).mono ?_; rintro e w2 ⟨rfl, hb2⟩)
   go_roundw
   case rel => exact ⟨k + 1, by go_num, by omega, below_then hbr hbr.size hb2⟩
   case measure => simp [intOf]; omega
  ·obtain rfl : m = k := by omega
   go_wp2
   go_ret
   exact ⟨rfl, hbr⟩
set_option maxRecDepth 100000 in
theorem edit_same (a b : Option Addr) (m ca cb : Nat) (es : List Sp) (w : World) (ha : Spls w a es) (hb : Spls w b es) (hm : es.length = m) (hm2 : m ≤ 9223372036854775807) :
  Calls Try.prog 87 #[.slice a m ca, .slice b m cb] w (TruePost w) := by
 have HM := Lib.hid hm
 clear hm
 go_enter Try.func87, Try.ntmps87
 go_wp2_with fail
 refine (same_edits a b m ca cb es w ha hb HM.out hm2).mono ?_
 rintro e w2 ⟨rfl, hb2⟩
 go_wp2
 go_ret
 exact ⟨rfl, hb2⟩
end Go.Proofs.Ytmipnikhgihcpaa
