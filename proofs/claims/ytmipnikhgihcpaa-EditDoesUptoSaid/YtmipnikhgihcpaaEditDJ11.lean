/- LiftEditDoes, part 11: joined from the texts Dr9 DrA DrB Places Obj9 ObjA ObjB Ds1 Ds2 Ds3 Ds4 Ds6. No condition of its own. -/
import Derived.Test.YtmipnikhgihcpaaEditDJ1
import Derived.Test.YtmipnikhgihcpaaEditDJ5
import Derived.Test.YtmipnikhgihcpaaEditDJ6
import Derived.Test.YtmipnikhgihcpaaEditDJ9
import Derived.Test.YtmipnikhgihcpaaEditDJ10
import Derived.Deep.RegionHeld3
set_option linter.unusedVariables false
set_option linter.unusedSimpArgs false
namespace Go.Proofs.Ytmipnikhgihcpaa
open Go.RowKit
def zero33 : List Value := [.slice none 0 0, .int .i64 0] ++ nil27 ++ [.int .i64 0, .int .i64 0, .int .i64 0, .slice none 0 0]
theorem zero33_len : zero33.length = 33 := rfl
theorem alloc_res (w : World) : (Instr.alloc 138 true (.tuple #[])).run Try.prog w = .ok (.pointer (some ⟨w.heap.size, 0, none⟩)) (w.alloc (.cells (rgA zero33) 138)) := by kernel_rfl
theorem build_res (w : World) : (Instr.build 138 #[]).run Try.prog w = .ok (.agg (rgA zero33)) w := by kernel_rfl
theorem size_res : (Try.prog.info? 138).map (·.size) = some 33 := by kernel_rfl
theorem under_res' : (Try.prog.underlying 138).map TypeDesc.isRow = some true := by kernel_rfl
theorem under_res : ∃ d, Try.prog.underlying 138 = some d ∧ d.isRow = true := by
 have h := under_res'
 cases hu : Try.prog.underlying 138 with
 | none => rw [hu] at h; cases h
 | some d => rw [hu] at h; exact ⟨d, rfl, by simpa using h⟩
theorem rangeAt_blk {w : World} {B : Nat} {vs : List Value} {e : TypeId} (h : BlkR w B vs e) : w.rangeAt B 0 vs := by
 intro j v hv
 rw [Nat.zero_add, h.cell (List.getElem?_eq_some_iff.1 hv).1, vx, List.getD_eq_getElem?_getD, hv]; rfl
theorem res_load {ops : Array Oper} {rest : List Oper} {op : Oper} {a : Act} {w : World} {Q : Exit → Act → World → Prop} (hgd : op.guard = none) (x : Operand) (ho : op.op = .load 138 x)
  (B o : Nat) (hx : a.eval x = .pointer (some ⟨B, o, none⟩)) (vs : List Value) (hB : w.rangeAt B o vs) (hl : vs.length = 33)
  (h : wpList Try.prog ops Q rest (a.put op.dst (.agg (rgA vs))) w) : wpList Try.prog ops Q (op :: rest) a w := by
 obtain ⟨d, hu, hd⟩ := under_res
 exact wpList_load_mid hgd 138 x ho B o hx vs d hB hu hd (by rw [hl]; exact size_res) h
theorem res_store {ops : Array Oper} {rest : List Oper} {op : Oper} {a : Act} {w : World} {Q : Exit → Act → World → Prop} (hgd : op.guard = none) (x y : Operand) (ho : op.op = .store 138 x y)
  (B o : Nat) (hx : a.eval x = .pointer (some ⟨B, o, none⟩)) (us : List Value) (hy : a.eval y = .agg (rgA us)) (vs : List Value) (e : TypeId) (hB : BlkR w B vs e) (hl : o + 33 ≤ vs.length) (hl2 : us.length = 33) (h1 : ∀ v ∈ us, v.oneCell' = true)
  (h : wpList Try.prog ops Q rest (a.put op.dst undef) (w.setCells B o us)) : wpList Try.prog ops Q (op :: rest) a w := by
 refine wpList_store_mid hgd 138 x y ho B o (rgA us) hx hy ?_ (by rw [rgA_size, hl2]; exact size_res) (all_oneCell_toArray h1) h
 intro j hj
 rw [rgA_size] at hj
 exact ⟨by rw [hB.cell (by omega)]; rfl, hB.free _⟩
theorem res_loadVar {w : World} {B : Nat} {vs : List Value} {e : TypeId} (hB : BlkR w B vs e) (hl : vs.length = 33) : (loadVar 138 ⟨B, 0, none⟩).run Try.prog w = .ok (.agg (rgA vs)) w := by
 obtain ⟨d, hu, hd⟩ := under_res
 exact run_loadVar_mid w B 0 138 vs d (rangeAt_blk hB) hu hd (by rw [hl]; exact size_res)
theorem one_zero33 : ∀ v ∈ zero33, v.oneCell' = true := by decide
def doer0 (a : Option Addr) (n c : Nat) (k : Int) (vs : List Value) (cm : C5) : List Value := [.slice a n c, .int .i64 k] ++ vs ++ cm.cells ++ zero33
theorem list27 {vs : List Value} (h : vs.length = 27) : ∃ v0 v1 v2 v3 v4 v5 v6 v7 v8 v9 v10 v11 v12 v13 v14 v15 v16 v17 v18 v19 v20 v21 v22 v23 v24 v25 v26, vs = [v0, v1, v2, v3, v4, v5, v6, v7, v8, v9, v10, v11, v12, v13, v14, v15, v16, v17, v18, v19, v20, v21, v22, v23, v24, v25, v26] := by
 rcases vs with _ | ⟨v0, _ | ⟨v1, _ | ⟨v2, _ | ⟨v3, _ | ⟨v4, _ | ⟨v5, _ | ⟨v6, _ | ⟨v7, _ | ⟨v8, _ | ⟨v9, _ | ⟨v10, _ | ⟨v11, _ | ⟨v12, _ | ⟨v13, _ | ⟨v14, _ | ⟨v15, _ | ⟨v16, _ | ⟨v17, _ | ⟨v18, _ | ⟨v19, _ | ⟨v20, _ | ⟨v21, _ | ⟨v22, _ | ⟨v23, _ | ⟨v24, _ | ⟨v25, _ | ⟨v26, _ | ⟨v27, r⟩⟩⟩⟩⟩⟩⟩⟩⟩⟩⟩⟩⟩⟩⟩⟩⟩⟩⟩⟩⟩⟩⟩⟩⟩⟩⟩⟩
 case cons.cons.cons.cons.cons.cons.cons.cons.cons.cons.cons.cons.cons.cons.cons.cons.cons.cons.cons.cons.cons.cons.cons.cons.cons.cons.cons.nil => exact ⟨_, _, _, _, _, _, _, _, _, _, _, _, _, _, _, _, _, _, _, _, _, _, _, _, _, _, _, rfl⟩
 all_goals (simp at h)
theorem build_doer' (a : Option Addr) (n c : Nat) (k : Int) (cm : C5) (v0 v1 v2 v3 v4 v5 v6 v7 v8 v9 v10 v11 v12 v13 v14 v15 v16 v17 v18 v19 v20 v21 v22 v23 v24 v25 v26 : Value) (w : World) :
  (Instr.build 223 #[(0, .agg #[.slice a n c, .int .i64 k]), (1, .agg #[v0, v1, v2, v3, v4, v5, v6, v7, v8, v9, v10, v11, v12, v13, v14, v15, v16, v17, v18, v19, v20, v21, v22, v23, v24, v25, v26]), (2, .agg #[.int .i64 cm.a, .int .i64 cm.b, .int .i64 cm.c, .int .i64 cm.d, .int .i64 cm.e])]).run Try.prog w = .ok (.agg (rgA (doer0 a n c k [v0, v1, v2, v3, v4, v5, v6, v7, v8, v9, v10, v11, v12, v13, v14, v15, v16, v17, v18, v19, v20, v21, v22, v23, v24, v25, v26] cm))) w := by kernel_rfl
theorem build_doer (a : Option Addr) (n c : Nat) (k : Int) (cm : C5) (vs : List Value) (h : vs.length = 27) (w : World) :
  (Instr.build 223 #[(0, .agg #[.slice a n c, .int .i64 k]), (1, .agg (rgA vs)), (2, .agg #[.int .i64 cm.a, .int .i64 cm.b, .int .i64 cm.c, .int .i64 cm.d, .int .i64 cm.e])]).run Try.prog w = .ok (.agg (rgA (doer0 a n c k vs cm))) w := by
 obtain ⟨v0, v1, v2, v3, v4, v5, v6, v7, v8, v9, v10, v11, v12, v13, v14, v15, v16, v17, v18, v19, v20, v21, v22, v23, v24, v25, v26, rfl⟩ := list27 h
 exact build_doer' a n c k cm _ _ _ _ _ _ _ _ _ _ _ _ _ _ _ _ _ _ _ _ _ _ _ _ _ _ _ w
def res0 (t : Value) (k fk fa : Int) : List Value := [t, .int .i64 k] ++ nil27 ++ [.int .i64 fk, .int .i64 fa, .int .i64 0, .slice none 0 0]
theorem build_res0 (a : Option Addr) (n c : Nat) (k fk fa : Int) (w : World) :
  (Instr.build 138 #[(0, .agg #[.slice a n c, .int .i64 k]), (2, .agg #[.int .i64 fk, .int .i64 fa]), (3, .int .i64 0)]).run Try.prog w = .ok (.agg (rgA (res0 (.slice a n c) k fk fa))) w := by kernel_rfl
structure RsI (base : Nat) (w : World) (rs : List Value) (s : St) : Prop where
 lr : rs.length = 33
 o : Own 3 base w (vx rs 0) s.O
 p : vx rs 1 = .int .i64 s.p
 ly : s.Y.length = 27
 y : ∀ i, i < 27 → Own 3 base w (vx rs (2 + i)) (rx s.Y i)
 f1 : vx rs 29 = .int .i64 s.fk
 f2 : vx rs 30 = .int .i64 s.fa
 m : vx rs 31 = .int .i64 s.md
 e : ∃ ws, SOwn base w (vx rs 32) ws s.es
def zSt (cm : C5) : St := ⟨cm, [], 0, nilX, 0, 0, 0, []⟩
theorem vx_zero33 {i : Nat} (h : i < 27) : vx zero33 (2 + i) = .slice none 0 0 := by
 unfold zero33 vx
 rw [List.getD_eq_getElem?_getD, List.append_assoc, List.getElem?_append_right (by simp), show 2 + i - [Value.slice none 0 0, Value.int IntKind.i64 0].length = i from by simp, List.getElem?_append_left (by rw [nil27_len]; exact h), nil27, List.getElem?_replicate, if_pos h]
 rfl
theorem rsI_zero (base : Nat) (w : World) (cm : C5) : RsI base w zero33 (zSt cm) :=
 ⟨rfl, Own.nil _ _ _, rfl, rfl, fun i hi => by rw [vx_zero33 hi, show rx (zSt cm).Y i = [] from getD_rep 27 _ _ hi]; exact Own.nil _ _ _, rfl, rfl, rfl, [], SOwn.nil _ _⟩
theorem vx_res0 {t : Value} {k fk fa : Int} {i : Nat} (h : i < 27) : vx (res0 t k fk fa) (2 + i) = .slice none 0 0 := by
 unfold res0 vx
 rw [List.getD_eq_getElem?_getD, List.append_assoc, List.getElem?_append_right (by simp), show 2 + i - [t, Value.int IntKind.i64 k].length = i from by simp, List.getElem?_append_left (by rw [nil27_len]; exact h), nil27, List.getElem?_replicate, if_pos h]
 rfl
theorem rsI_res0 {base : Nat} {w : World} {v : Value} {t : List Int} (h : Own 3 base w v t) (cm : C5) (k fk fa : Int) : RsI base w (res0 v k fk fa) ⟨cm, t, k, nilX, fk, fa, 0, []⟩ :=
 ⟨rfl, h, rfl, rfl, fun i hi => by rw [vx_res0 hi, show rx nilX i = [] from getD_rep 27 _ _ hi]; exact Own.nil _ _ _, rfl, rfl, rfl, [], SOwn.nil _ _⟩
theorem one_res0 {v : Value} (hv : v.oneCell' = true) (k fk fa : Int) : ∀ u ∈ res0 v k fk fa, u.oneCell' = true := by
 intro u hu
 unfold res0 nil27 at hu
 simp only [List.mem_append, List.mem_cons, List.not_mem_nil, or_false, List.mem_replicate] at hu
 rcases hu with ((rfl | rfl) | ⟨_, rfl⟩) | rfl | rfl | rfl | rfl
 ·exact hv
 all_goals rfl
theorem RsI.one {base : Nat} {w : World} {rs : List Value} {s : St} (h : RsI base w rs s) : ∀ v ∈ rs, v.oneCell' = true := by
 intro v hv
 obtain ⟨i, hi, rfl⟩ := vx_mem hv
 rw [h.lr] at hi
 by_cases h0 : i = 0
 ·subst h0; obtain ⟨a, n, c, e⟩ := h.o.form; rw [e]; rfl
 by_cases h1 : i = 1
 ·subst h1; rw [h.p]; rfl
 by_cases h2 : i < 29
 ·obtain ⟨a, n, c, e⟩ := (h.y (i - 2) (by omega)).form
  rw [show 2 + (i - 2) = i from by omega] at e; rw [e]; rfl
 by_cases h3 : i = 29
 ·subst h3; rw [h.f1]; rfl
 by_cases h4 : i = 30
 ·subst h4; rw [h.f2]; rfl
 by_cases h5 : i = 31
 ·subst h5; rw [h.m]; rfl
 obtain rfl : i = 32 := by omega
 obtain ⟨ws, hw⟩ := h.e
 obtain ⟨a, c, e, -, -, -⟩ := hw.form; rw [e]; rfl
theorem RsI.mono {base base' : Nat} {w : World} {rs : List Value} {s : St} (h : RsI base w rs s) (hb : base' ≤ base) : RsI base' w rs s :=
 ⟨h.lr, h.o.mono hb, h.p, h.ly, fun i hi => (h.y i hi).mono hb, h.f1, h.f2, h.m, by obtain ⟨ws, hw⟩ := h.e; exact ⟨ws, hw.mono hb⟩⟩
theorem RsI.left {base B : Nat} {w w' : World} {rs : List Value} {s : St} (h : RsI base w rs s) (hL : Left B w w') (hb : B < base) : RsI base w' rs s :=
 ⟨h.lr, h.o.left hL hb, h.p, h.ly, fun i hi => (h.y i hi).left hL hb, h.f1, h.f2, h.m, by obtain ⟨ws, hw⟩ := h.e; exact ⟨ws, hw.left hL hb⟩⟩
def DoPost (er : Int) (s : St) (w : World) (e : Ending) (w' : World) : Prop := ∃ rs, e = .returned (.tuple #[.agg (rgA rs), .int .i64 er]) ∧ RsI w.heap.size w' rs s ∧ Below w.heap.size w w'
theorem di_zero {I : In} (hI : InOk I) (cm : C5) {w : World} (hb : Below I.w0.heap.size I.w0 w) : DI w.heap.size (w.alloc (.cells (rgA (doer0 I.a I.n I.c I.k I.vs cm)) 223)) (doer0 I.a I.n I.c I.k I.vs cm) I (zSt cm) := by
 have hl := hI.rgs.lv
 have hB := BlkR.new w (doer0 I.a I.n I.c I.k I.vs cm) 223
 have hbel := hb.alloc hb.size (.cells (rgA (doer0 I.a I.n I.c I.k I.vs cm)) 223)
 have hge := hb.size
 generalize (w.alloc (.cells (rgA (doer0 I.a I.n I.c I.k I.vs cm)) 223)) = w1 at *
 clear hI
 obtain ⟨w0, a, n, c, t, k, vs, X⟩ := I
 dsimp only at *
 obtain ⟨v0, v1, v2, v3, v4, v5, v6, v7, v8, v9, v10, v11, v12, v13, v14, v15, v16, v17, v18, v19, v20, v21, v22, v23, v24, v25, v26, rfl⟩ := list27 hl
 refine { lu := rfl, b := hB, bel := hbel, ge := hge, u0 := rfl, u1 := rfl, ur := ?_, k0 := rfl, k1 := rfl, k2 := rfl, k3 := rfl, k4 := rfl, o := Own.nil _ _ _, p := rfl, ly := rfl, y := ?_, f1 := rfl, f2 := rfl, m := rfl, e := ⟨[], SOwn.nil _ _⟩ }
 ·intro i hi
  have : ∀ i, i < 27 → i = 0 ∨ i = 1 ∨ i = 2 ∨ i = 3 ∨ i = 4 ∨ i = 5 ∨ i = 6 ∨ i = 7 ∨ i = 8 ∨ i = 9 ∨ i = 10 ∨ i = 11 ∨ i = 12 ∨ i = 13 ∨ i = 14 ∨ i = 15 ∨ i = 16 ∨ i = 17 ∨ i = 18 ∨ i = 19 ∨ i = 20 ∨ i = 21 ∨ i = 22 ∨ i = 23 ∨ i = 24 ∨ i = 25 ∨ i = 26 := by omega
  rcases this i hi with rfl | rfl | rfl | rfl | rfl | rfl | rfl | rfl | rfl | rfl | rfl | rfl | rfl | rfl | rfl | rfl | rfl | rfl | rfl | rfl | rfl | rfl | rfl | rfl | rfl | rfl | rfl <;> rfl
 ·intro i hi
  rw [show rx (zSt cm).Y i = [] from getD_rep 27 _ _ hi]
  have : ∀ i, i < 27 → i = 0 ∨ i = 1 ∨ i = 2 ∨ i = 3 ∨ i = 4 ∨ i = 5 ∨ i = 6 ∨ i = 7 ∨ i = 8 ∨ i = 9 ∨ i = 10 ∨ i = 11 ∨ i = 12 ∨ i = 13 ∨ i = 14 ∨ i = 15 ∨ i = 16 ∨ i = 17 ∨ i = 18 ∨ i = 19 ∨ i = 20 ∨ i = 21 ∨ i = 22 ∨ i = 23 ∨ i = 24 ∨ i = 25 ∨ i = 26 := by omega
  rcases this i hi with rfl | rfl | rfl | rfl | rfl | rfl | rfl | rfl | rfl | rfl | rfl | rfl | rfl | rfl | rfl | rfl | rfl | rfl | rfl | rfl | rfl | rfl | rfl | rfl | rfl | rfl | rfl <;> exact Own.nil _ _ _
theorem DI.setRes {P : Nat} {w : World} {us : List Value} {I : In} {s s' : St} (h : DI P w us I s) (rs : List Value) (hr : RsI (P + 1) w rs s') : DI P (w.setCells P 34 rs) (ovl us 34 rs) I { s' with cm := s.cm } := by
 have hL := left_setCells w P 34 rs
 have lu := h.lu
 have lr := hr.lr
 have ne : ∀ {i : Nat}, i < 67 → i < 34 → vx (ovl us 34 rs) i = vx us i := fun {i} h1 h2 => vx_ovl_ne (by omega) (by omega)
 have hin : ∀ {j : Nat}, j < 33 → vx (ovl us 34 rs) (34 + j) = vx rs j := fun {j} hj => vx_ovl_in (by omega) (by omega)
 exact { lu := by rw [ovl_len, lu], b := h.b.setCells 34 rs, bel := hL.bel h.ge h.bel, ge := h.ge, u0 := by rw [ne (by omega) (by omega)]; exact h.u0, u1 := by rw [ne (by omega) (by omega)]; exact h.u1, ur := fun i hi => by rw [ne (by omega) (by omega)]; exact h.ur i hi, k0 := by rw [ne (by omega) (by omega)]; exact h.k0, k1 := by rw [ne (by omega) (by omega)]; exact h.k1, k2 := by rw [ne (by omega) (by omega)]; exact h.k2, k3 := by rw [ne (by omega) (by omega)]; exact h.k3, k4 := by rw [ne (by omega) (by omega)]; exact h.k4, o := by rw [show (34 : Nat) = 34 + 0 from rfl, hin (by omega)]; exact hr.o.left hL (Nat.lt_succ_self P), p := by rw [show (35 : Nat) = 34 + 1 from rfl, hin (by omega)]; exact hr.p, ly := hr.ly, y := fun i hi => by rw [show 36 + i = 34 + (2 + i) from by omega, hin (by omega)]; exact (hr.y i hi).left hL (Nat.lt_succ_self P), f1 := by rw [show (63 : Nat) = 34 + 29 from rfl, hin (by omega)]; exact hr.f1, f2 := by rw [show (64 : Nat) = 34 + 30 from rfl, hin (by omega)]; exact hr.f2, m := by rw [show (65 : Nat) = 34 + 31 from rfl, hin (by omega)]; exact hr.m, e := by rw [show (66 : Nat) = 34 + 32 from rfl, hin (by omega)]; obtain ⟨ws, hw⟩ := hr.e; exact ⟨ws, hw.left hL (Nat.lt_succ_self P)⟩ }
theorem DI.setReg {P : Nat} {w : World} {us : List Value} {I : In} {s : St} (h : DI P w us I s) (i : Nat) (hi : i < 27) (v : Value) (y : List Int) (hv : Own 3 (P + 1) w v y) : DI P (w.setCell ⟨P, 36 + i, none⟩ v) (us.set (36 + i) v) I { s with Y := s.Y.set i y } :=
  { lu := by simpa using h.lu, b := h.b.set (36 + i) _, bel := h.bel.setCell (p := ⟨P, 36 + i, none⟩) h.ge _, ge := h.ge, u0 := by rw [vx_set_ne (by omega)]; exact h.u0, u1 := by rw [vx_set_ne (by omega)]; exact h.u1, ur := fun j hj => by rw [vx_set_ne (by omega)]; exact h.ur j hj, k0 := by rw [vx_set_ne (by omega)]; exact h.k0, k1 := by rw [vx_set_ne (by omega)]; exact h.k1, k2 := by rw [vx_set_ne (by omega)]; exact h.k2, k3 := by rw [vx_set_ne (by omega)]; exact h.k3, k4 := by rw [vx_set_ne (by omega)]; exact h.k4, o := by rw [vx_set_ne (by omega)]; exact h.o.setCell (a := ⟨P, 36 + i, none⟩) (Nat.lt_succ_self P) _, p := by rw [vx_set_ne (by omega)]; exact h.p, ly := by rw [List.length_set]; exact h.ly, y := fun j hj => by
      by_cases hij : i = j
      · subst hij
        rw [vx_set_eq (by rw [h.lu]; omega), rx_set_eq (by rw [h.ly]; omega)]
        exact hv.setCell (a := ⟨P, 36 + i, none⟩) (Nat.lt_succ_self P) _
      · rw [vx_set_ne (by omega), rx_set_ne hij]
        exact (h.y j hj).setCell (a := ⟨P, 36 + i, none⟩) (Nat.lt_succ_self P) _, f1 := by rw [vx_set_ne (by omega)]; exact h.f1, f2 := by rw [vx_set_ne (by omega)]; exact h.f2, m := by rw [vx_set_ne (by omega)]; exact h.m, e := by rw [vx_set_ne (by omega)]; obtain ⟨ws, hw⟩ := h.e; exact ⟨ws, hw.setCell (a := ⟨P, 36 + i, none⟩) (Nat.lt_succ_self P) _⟩ }
def resU (us : List Value) : List Value := (us.drop 34).take 33
theorem resU_len {us : List Value} (h : us.length = 67) : (resU us).length = 33 := by simp [resU, h]
theorem vx_resU {us : List Value} {j : Nat} (h : j < 33) : vx (resU us) j = vx us (34 + j) := by
 unfold resU vx
 rw [List.getD_eq_getElem?_getD, List.getD_eq_getElem?_getD, List.getElem?_take, if_pos h, List.getElem?_drop]
theorem DI.res {P : Nat} {w : World} {us : List Value} {I : In} {s : St} (h : DI P w us I s) : RsI (P + 1) w (resU us) s :=
 ⟨resU_len h.lu, by rw [vx_resU (by omega)]; exact h.o, by rw [vx_resU (by omega)]; exact h.p, h.ly, fun i hi => by rw [vx_resU (by omega), show 34 + (2 + i) = 36 + i from by omega]; exact h.y i hi, by rw [vx_resU (by omega)]; exact h.f1, by rw [vx_resU (by omega)]; exact h.f2, by rw [vx_resU (by omega)]; exact h.m, by rw [vx_resU (by omega)]; exact h.e⟩
theorem DI.rngRes {P : Nat} {w : World} {us : List Value} {I : In} {s : St} (h : DI P w us I s) : w.rangeAt P 34 (resU us) := by
 intro j v hv
 have hj : j < 33 := by rw [← resU_len h.lu]; exact (List.getElem?_eq_some_iff.1 hv).1
 rw [h.cell (by omega), ← vx_resU hj, vx, List.getD_eq_getElem?_getD, hv]; rfl
def opOk (c : Int) : Bool := decide (c = 0 ∨ c = 100 ∨ c = 99 ∨ c = 121)
noncomputable def doR (I : In) (cm : C5) (fk fa : Int) : Int × St :=
 if cm.a < 0 ∨ 999 < cm.a then (1, zSt cm)
 else if ¬ (fk = 0 ∨ fiB fk = true) then (1, zSt cm)
 else if opOk cm.c = false then (9, zSt cm)
 else if (doS I ⟨lgC cm, I.t, I.k, I.X, fk, fa, 0, []⟩).1 ≠ 0 then ((doS I ⟨lgC cm, I.t, I.k, I.X, fk, fa, 0, []⟩).1, zSt cm)
 else (0, (doS I ⟨lgC cm, I.t, I.k, I.X, fk, fa, 0, []⟩).2)
theorem boxes5 (w : World) (l f c : Array Value) (vs zs : List Value) (tl tr tf tc tz : TypeId) :
  let W := ((((w.alloc (.cells l tl)).alloc (.cells (rgA vs) tr)).alloc (.cells f tf)).alloc (.cells c tc)).alloc (.cells (rgA zs) tz)
  Blk W w.heap.size l tl ∧ BlkR W (w.heap.size + 1) vs tr ∧ Blk W (w.heap.size + 2) f tf ∧ Blk W (w.heap.size + 3) c tc ∧ BlkR W (w.heap.size + 4) zs tz ∧ Below w.heap.size w W ∧ W.heap.size = w.heap.size + 5 := by
 have h1 := Blk.new w l tl
 have h2 := Blk.new (w.alloc (.cells l tl)) (rgA vs) tr
 have h3 := Blk.new ((w.alloc (.cells l tl)).alloc (.cells (rgA vs) tr)) f tf
 have h4 := Blk.new (((w.alloc (.cells l tl)).alloc (.cells (rgA vs) tr)).alloc (.cells f tf)) c tc
 have h5 := Blk.new ((((w.alloc (.cells l tl)).alloc (.cells (rgA vs) tr)).alloc (.cells f tf)).alloc (.cells c tc)) (rgA zs) tz
 simp only [World.size_alloc] at h2 h3 h4 h5
 exact ⟨(((h1.alloc _).alloc _).alloc _).alloc _, ((h2.alloc _).alloc _).alloc _, (h3.alloc _).alloc _, h4.alloc _, h5, ((((below1 w _).alloc (by simp only [World.size_alloc]; omega) _).alloc (by simp only [World.size_alloc]; omega) _).alloc (by simp only [World.size_alloc]; omega) _).alloc (by simp only [World.size_alloc]; omega) _, by simp only [World.size_alloc]⟩
theorem zero_store {w wx : World} {B : Nat} {vs : List Value} (hB : BlkR wx B vs 138) (hl : vs.length = 33) (hb : Below w.heap.size w wx) (hw : w.heap.size ≤ B) (rs : List Value) (hr : rs.length = 33) :
  BlkR (wx.setCells B 0 rs) B rs 138 ∧ Below w.heap.size w (wx.setCells B 0 rs) := by
 have h := hB.setCells 0 rs
 rw [ovl_all (by rw [hl, hr])] at h
 exact ⟨h, (left_setCells wx B 0 rs).bel hw hb⟩
theorem doer_build {ops : Array Oper} {rest : List Oper} {o : Oper} {a : Act} {w : World} {Q : Exit → Act → World → Prop} (hg : o.guard = none) (x y z : Operand) (ho : o.op = .build 223 #[(0, x), (1, y), (2, z)])
  (ad : Option Addr) (n c : Nat) (k : Int) (vs : List Value) (cm : C5) (hx : a.eval x = .agg #[.slice ad n c, .int .i64 k]) (hy : a.eval y = .agg (rgA vs)) (hz : a.eval z = .agg #[.int .i64 cm.a, .int .i64 cm.b, .int .i64 cm.c, .int .i64 cm.d, .int .i64 cm.e]) (hl : vs.length = 27)
  (h : wpList Try.prog ops Q rest (a.put o.dst (.agg (rgA (doer0 ad n c k vs cm)))) w) : wpList Try.prog ops Q (o :: rest) a w := by
 refine wpList_plain hg fun _ hK => ?_
 have hm : (#[(0, x), (1, y), (2, z)] : Array (Nat × Operand)).map (fun (i, x) => (i, a.eval x)) = #[(0, .agg #[.slice ad n c, .int .i64 k]), (1, .agg (rgA vs)), (2, .agg #[.int .i64 cm.a, .int .i64 cm.b, .int .i64 cm.c, .int .i64 cm.d, .int .i64 cm.e])] := by
  simp [hx, hy, hz]
 unfold Oper.wp execOp
 simp only [ho, hm, Sem.run_bind, build_doer ad n c k cm vs hl w, Result.andThen_ok]
 exact hK _ _ h
theorem wp_build_res0 {o : Oper} {a : Act} {w : World} {K : Act → World → Prop} {Q : Exit → Act → World → Prop} (x y : Operand) (ho : o.op = .build 138 #[(0, x), (2, y), (3, .const (.int .i64 0))])
  (ad : Option Addr) (n c : Nat) (k fk fa : Int) (hx : a.eval x = .agg #[.slice ad n c, .int .i64 k]) (hy : a.eval y = .agg #[.int .i64 fk, .int .i64 fa])
  (h : K (a.put o.dst (.agg (rgA (res0 (.slice ad n c) k fk fa)))) w) : o.wp Try.prog a w K Q := by
 have hm : (#[(0, x), (2, y), (3, .const (.int .i64 0))] : Array (Nat × Operand)).map (fun (i, x) => (i, a.eval x)) = #[(0, .agg #[.slice ad n c, .int .i64 k]), (2, .agg #[.int .i64 fk, .int .i64 fa]), (3, .int .i64 0)] := by
  simp [hx, hy, show a.eval (Operand.const (Value.int .i64 0)) = Value.int .i64 0 from rfl]
 unfold Oper.wp execOp
 simp only [ho, hm, Sem.run_bind, build_res0 ad n c k fk fa w, Result.andThen_ok]
 exact h
theorem wp_store_res {o : Oper} {a : Act} {w : World} {K : Act → World → Prop} {Q : Exit → Act → World → Prop} (x y : Operand) (ho : o.op = .store 138 x y)
  (B f : Nat) (hx : a.eval x = .pointer (some ⟨B, f, none⟩)) (us : List Value) (hy : a.eval y = .agg (rgA us)) (ht : w.there B f 33) (hl2 : us.length = 33) (h1 : ∀ v ∈ us, v.oneCell' = true)
  (h : K (a.put o.dst undef) (w.setCells B f us)) : o.wp Try.prog a w K Q :=
 wp_store_mid 138 x y ho B f (rgA us) hx hy (by rw [rgA_size, hl2]; exact ht) (by rw [rgA_size, hl2]; exact size_res) (all_oneCell_toArray h1) h
theorem take_set27 {X : List (List Int)} (hX : X.length = 27) {i : Nat} (hi : i < 27) : (X.take i ++ nilX.drop i).set i (rx X i) = X.take (i + 1) ++ nilX.drop (i + 1) := by
 have hn : nilX.length = 27 := rfl
 rw [List.set_append, if_neg (by rw [List.length_take]; omega), List.length_take, Nat.min_eq_left (by omega), Nat.sub_self, List.take_succ_eq_append_getElem (by omega), List.append_assoc]
 congr 1
 rw [List.drop_eq_getElem_cons (by omega), List.set_cons_zero]
 simp [rx, List.getD_eq_getElem?_getD, List.getElem?_eq_getElem (show i < X.length by omega)]
theorem take_all27 {X : List (List Int)} (hX : X.length = 27) : X.take 27 ++ nilX.drop 27 = X := by
 rw [List.take_of_length_le (by omega), show nilX.drop 27 = [] from rfl, List.append_nil]
set_option maxRecDepth 100000 in
set_option maxHeartbeats 4000000 in
theorem do_chk (a : Option Addr) (n c : Nat) (k fk fa : Int) (vs : List Value) (cm : C5) (w : World) (E : Int) (hE : lnE n k = E) (h0 : E ≠ 0) :
  Calls Try.prog 83 #[.agg #[.slice a n c, .int .i64 k], .agg (rgA vs), .agg #[.int .i64 fk, .int .i64 fa], .agg #[.int .i64 cm.a, .int .i64 cm.b, .int .i64 cm.c, .int .i64 cm.d, .int .i64 cm.e]] w (DoPost E (zSt cm) w) := by
 have hal := alloc_res
 have hbl := build_res
 have n0 : (E != 0) = true := by simpa using h0
 have HE := Lib.hid hE
 clear hE h0
 have hbx := boxes5 w #[.slice a n c, .int .i64 k] #[.int .i64 fk, .int .i64 fa] #[.int .i64 cm.a, .int .i64 cm.b, .int .i64 cm.c, .int .i64 cm.d, .int .i64 cm.e] vs zero33 131 133 135 80 138
 dsimp only at hbx
 rw [show rgA zero33 = #[.slice none 0 0, .int .i64 0, .slice none 0 0, .slice none 0 0, .slice none 0 0, .slice none 0 0, .slice none 0 0, .slice none 0 0, .slice none 0 0, .slice none 0 0, .slice none 0 0, .slice none 0 0, .slice none 0 0, .slice none 0 0, .slice none 0 0, .slice none 0 0, .slice none 0 0, .slice none 0 0, .slice none 0 0, .slice none 0 0, .slice none 0 0, .slice none 0 0, .slice none 0 0, .slice none 0 0, .slice none 0 0, .slice none 0 0, .slice none 0 0, .slice none 0 0, .slice none 0 0, .int .i64 0, .int .i64 0, .int .i64 0, .slice none 0 0] from rfl] at hbx
 go_enter Try.func83, Try.ntmps83
 go_upto_region 1 with fail
 generalize (((((w.alloc (.cells #[.slice a n c, .int .i64 k] 131)).alloc (.cells (rgA vs) 133)).alloc (.cells #[.int .i64 fk, .int .i64 fa] 135)).alloc (.cells #[.int .i64 cm.a, .int .i64 cm.b, .int .i64 cm.c, .int .i64 cm.d, .int .i64 cm.e] 80)).alloc (.cells #[.slice none 0 0, .int .i64 0, .slice none 0 0, .slice none 0 0, .slice none 0 0, .slice none 0 0, .slice none 0 0, .slice none 0 0, .slice none 0 0, .slice none 0 0, .slice none 0 0, .slice none 0 0, .slice none 0 0, .slice none 0 0, .slice none 0 0, .slice none 0 0, .slice none 0 0, .slice none 0 0, .slice none 0 0, .slice none 0 0, .slice none 0 0, .slice none 0 0, .slice none 0 0, .slice none 0 0, .slice none 0 0, .slice none 0 0, .slice none 0 0, .slice none 0 0, .slice none 0 0, .int .i64 0, .int .i64 0, .int .i64 0, .slice none 0 0] 138)) = w5 at *
 obtain ⟨hLn, hRg, hFd, hCm, hZ, hbw, hsz⟩ := hbx
 obtain ⟨l0, l1, -, -⟩ := hLn.two
 go_wp2_with (first | (go_at_call 88; go_loud (refine (edit_check a n c k _).mono ?_; rintro e w8 ⟨rfl, hb8⟩; rw [HE.out]; have hZ8 := hZ.below hb8 hZ.lt; have HB8 := Lib.hid (hbw.trans (hb8.mono (by omega))); have hC8 := hCm.below hb8 hCm.lt; obtain ⟨d0, d1, d2, d3, d4⟩ := Blk.five hC8; have hLn8 := hLn.below hb8 hLn.lt; obtain ⟨p0, p1, -, -⟩ := Blk.two hLn8; have HLn8 := Lib.hid hLn8; clear hLn8; have HRg8 := Lib.hid (hRg.below hb8 hRg.lt); have HFd8 := Lib.hid (hFd.below hb8 hFd.lt); have HC8 := Lib.hid hC8; clear hC8 hb8)) | ((with_reducible show wpList _ _ _ (⟨none, Op.store _ _ _, _, _, _, _⟩ :: _) _ _); go_loud (refine res_store rfl _ _ rfl (w.heap.size + 4) 0 rfl zero33 rfl zero33 _ hZ8 (Nat.le_refl 33) rfl one_zero33 ?_; have hz9 := zero_store hZ8 zero33_len HB8.out (by omega) zero33 rfl; generalize w8.setCells (w.heap.size + 4) 0 zero33 = w9 at hz9 ⊢)))
 exact bodyPost_ret (results_ct Try.results83 rfl (res_loadVar hz9.1 zero33_len)) rfl ⟨zero33, rfl, rsI_zero _ _ _, hz9.2⟩
set_option maxRecDepth 100000 in
set_option maxHeartbeats 4000000 in
theorem do_cnt (a : Option Addr) (n c : Nat) (k fk fa : Int) (vs : List Value) (cm : C5) (w : World) (hE : lnE n k = 0) (h0 : cm.a < 0 ∨ 999 < cm.a) :
  Calls Try.prog 83 #[.agg #[.slice a n c, .int .i64 k], .agg (rgA vs), .agg #[.int .i64 fk, .int .i64 fa], .agg #[.int .i64 cm.a, .int .i64 cm.b, .int .i64 cm.c, .int .i64 cm.d, .int .i64 cm.e]] w (DoPost 1 (zSt cm) w) := by
 have hal := alloc_res
 have hbl := build_res
 have HE := Lib.hid hE
 clear hE
 have hbx := boxes5 w #[.slice a n c, .int .i64 k] #[.int .i64 fk, .int .i64 fa] #[.int .i64 cm.a, .int .i64 cm.b, .int .i64 cm.c, .int .i64 cm.d, .int .i64 cm.e] vs zero33 131 133 135 80 138
 dsimp only at hbx
 rw [show rgA zero33 = #[.slice none 0 0, .int .i64 0, .slice none 0 0, .slice none 0 0, .slice none 0 0, .slice none 0 0, .slice none 0 0, .slice none 0 0, .slice none 0 0, .slice none 0 0, .slice none 0 0, .slice none 0 0, .slice none 0 0, .slice none 0 0, .slice none 0 0, .slice none 0 0, .slice none 0 0, .slice none 0 0, .slice none 0 0, .slice none 0 0, .slice none 0 0, .slice none 0 0, .slice none 0 0, .slice none 0 0, .slice none 0 0, .slice none 0 0, .slice none 0 0, .slice none 0 0, .slice none 0 0, .int .i64 0, .int .i64 0, .int .i64 0, .slice none 0 0] from rfl] at hbx
 have h3 : cm.a < 0 ∨ 0 ≤ cm.a ∧ 999 < cm.a := by omega
 clear h0
 rcases h3 with h3 | ⟨h2, h3⟩
 all_goals
  go_enter Try.func83, Try.ntmps83
  go_upto_region 1 with fail
  generalize (((((w.alloc (.cells #[.slice a n c, .int .i64 k] 131)).alloc (.cells (rgA vs) 133)).alloc (.cells #[.int .i64 fk, .int .i64 fa] 135)).alloc (.cells #[.int .i64 cm.a, .int .i64 cm.b, .int .i64 cm.c, .int .i64 cm.d, .int .i64 cm.e] 80)).alloc (.cells #[.slice none 0 0, .int .i64 0, .slice none 0 0, .slice none 0 0, .slice none 0 0, .slice none 0 0, .slice none 0 0, .slice none 0 0, .slice none 0 0, .slice none 0 0, .slice none 0 0, .slice none 0 0, .slice none 0 0, .slice none 0 0, .slice none 0 0, .slice none 0 0, .slice none 0 0, .slice none 0 0, .slice none 0 0, .slice none 0 0, .slice none 0 0, .slice none 0 0, .slice none 0 0, .slice none 0 0, .slice none 0 0, .slice none 0 0, .slice none 0 0, .slice none 0 0, .slice none 0 0, .int .i64 0, .int .i64 0, .int .i64 0, .slice none 0 0] 138)) = w5 at *
  obtain ⟨hLn, hRg, hFd, hCm, hZ, hbw, hsz⟩ := hbx
  obtain ⟨l0, l1, -, -⟩ := hLn.two
  go_wp2_with (first | (go_at_call 88; go_loud (refine (edit_check a n c k _).mono ?_; rintro e w8 ⟨rfl, hb8⟩; rw [HE.out]; have hZ8 := hZ.below hb8 hZ.lt; have HB8 := Lib.hid (hbw.trans (hb8.mono (by omega))); have hC8 := hCm.below hb8 hCm.lt; obtain ⟨d0, d1, d2, d3, d4⟩ := Blk.five hC8; have hLn8 := hLn.below hb8 hLn.lt; obtain ⟨p0, p1, -, -⟩ := Blk.two hLn8; have HLn8 := Lib.hid hLn8; clear hLn8; have HRg8 := Lib.hid (hRg.below hb8 hRg.lt); have HFd8 := Lib.hid (hFd.below hb8 hFd.lt); have HC8 := Lib.hid hC8; clear hC8 hb8)) | ((with_reducible show wpList _ _ _ (⟨none, Op.store _ _ _, _, _, _, _⟩ :: _) _ _); go_loud (refine res_store rfl _ _ rfl (w.heap.size + 4) 0 rfl zero33 rfl zero33 _ hZ8 (Nat.le_refl 33) rfl one_zero33 ?_; have hz9 := zero_store hZ8 zero33_len HB8.out (by omega) zero33 rfl; generalize w8.setCells (w.heap.size + 4) 0 zero33 = w9 at hz9 ⊢)))
  exact bodyPost_ret (results_ct Try.results83 rfl (res_loadVar hz9.1 zero33_len)) rfl ⟨zero33, rfl, rsI_zero _ _ _, hz9.2⟩
theorem belowOf {w w' : World} (h : ∃ n, w' = w.drewN n) : Below w.heap.size w w' := by
 obtain ⟨n, rfl⟩ := h; exact below_drewN (Below.refl _ _) n
def PlacesPost (p s : List Int) (n : Nat) (w : World) (e : Ending) (w' : World) : Prop := ∃ v, e = .returned v ∧ Own 3 w.heap.size w' v (placesS p s n) ∧ Below w.heap.size w w'
set_option maxRecDepth 100000 in
theorem ref_places1 (a1 a2 : Option Addr) (m c1 n c2 : Nat) (p s : List Int) (w : World) (h1 : Ints w a1 p) (h2 : Ints w a2 s) (hm : p.length = m) (hn : s.length = n) (hm2 : m ≤ 4096) (hn2 : n ≤ 4096) (hc : n ≤ c2) (hc2 : c2 ≤ 9223372036854775807) (hpos : 0 < m) :
  Calls Try.prog 261 #[.slice a1 m c1, .slice a2 n c2] w (PlacesPost p s (n + 1 - m) w) := by
 have HM := Lib.hid hm; have HN := Lib.hid hn; clear hm hn
 go_enter Try.func261, Try.ntmps261
 go_wp2
 go_loopw [6, 5] (fun i v wr => ∃ k : Nat, i = .int .i64 (k : Int) ∧ k ≤ n + 1 - m ∧ Own 3 w.heap.size wr v (placesS p s k) ∧ Below w.heap.size w wr) (fun i _ _ => n + 1 - (intOf i).toNat)
 case atStart => exact ⟨0, rfl, by omega, Own.nil _ _ _, Below.refl _ _⟩
 case round =>
  obtain ⟨k, rfl, hk, hown, hbel⟩ := hrel
  have hpl := placesS_length p s k
  by_cases hlt : k + m ≤ n
  ·have i0 : (k : Int) + m ≤ n := by omega
   have hst := stands_suf (p := p) (s := s) (t := k) (by rw [HM.out, HN.out]; exact hlt)
   clear hst
   obtain ⟨b2, o2, rfl, -⟩ := h2.at (k := k) (by rw [HN.out]; omega)
   have i1 : ¬ c2 = k := by omega
   have i2 : (k : Int) + m ≤ c2 := by omega
   by_cases hq : standsB p s k = true
   ·have HQ := Lib.hid hq; have HY := Lib.hid (placesS_succ_yes hq); clear hq
    go_wp2_with fail
    refine (slices_eqb a1 (some ⟨b2, o2 + k, none⟩) m m c1 (c2 - k) p ((s.drop k).take m) true (by have := HQ.out; unfold standsB at this; rw [HM.out] at this; simpa using this) wr (h1.below hbel) (((h2.below hbel).drop k).take m) HM.out (by simp; have := HN.out; omega) (by omega)).mono ?_
    rintro e w2 ⟨rfl, hq2⟩
    have hq3 := belowOf hq2
    have hown2 : Own 3 w.heap.size w2 u5 (placesS p s k) := hown.kept hq3
    have hb2 := below_then hbel hbel.size hq3
    clear hq2 hq3
    go_wp2_with (at_builtin; refine app1 rfl _ _ rfl w.heap.size u5 _ _ _ rfl rfl (hown2.alloc _) (cell_new1 _ _ _) (by omega) (size_alloc_le hb2.size _) ?_; intro v3 w3 hown3 hgrow3)
    go_roundw
    case rel => exact ⟨k + 1, by go_num, by omega, by rw [HY.out]; exact hown3, (hb2.alloc hb2.size _).grown hgrow3 (by have := hb2.size; simp; omega) hown2.row⟩
    case measure => simp [intOf]; omega
   ·have HQ := Lib.hid hq; have HY := Lib.hid (placesS_succ_no hq); clear hq
    go_wp2_with fail
    refine (slices_eqb a1 (some ⟨b2, o2 + k, none⟩) m m c1 (c2 - k) p ((s.drop k).take m) false (by have := HQ.out; unfold standsB at this; rw [HM.out] at this; simpa using this) wr (h1.below hbel) (((h2.below hbel).drop k).take m) HM.out (by simp; have := HN.out; omega) (by omega)).mono ?_
    rintro e w2 ⟨rfl, hq2⟩
    have hq3 := belowOf hq2
    have hown2 : Own 3 w.heap.size w2 u5 (placesS p s k) := hown.kept hq3
    have hb2 := below_then hbel hbel.size hq3
    clear hq2 hq3
    go_wp2
    go_roundw
    case rel => exact ⟨k + 1, by go_num, by omega, by rw [HY.out]; exact hown2, hb2⟩
    case measure => simp [intOf]; omega
  ·have hke : k = n + 1 - m := by omega
   have HK := Lib.hid hke; clear hke
   have i0 : ¬ (k : Int) + m ≤ n := by omega
   go_wp2
   go_ret
   exact ⟨_, rfl, by rw [← HK.out]; exact hown, hbel⟩
set_option maxRecDepth 100000 in
theorem ref_object_w0 (a : Option Addr) (c : Nat) (l : List Int) (big around : Bool) (key : Int) (hkey : key = if big = true then 87 else 119) (w : World) (hn : l.length = 0) :
  Calls Try.prog 234 #[.slice a 0 c, .int .i64 ((0 : Nat) : Int), .bool around, .int .i64 key] w (Out3 (OfWP l around 0 big) w) := by
 have HN := Lib.hid hn; clear hn
 rcases big with _ | _
 all_goals
  simp at hkey
  subst hkey
  go_enter Try.func234, Try.ntmps234
  go_wp2
  go_ret3
  exact ⟨0, 0, 6, rfl, .inl ⟨HN.out, rfl, rfl, rfl⟩, Below.refl _ _⟩
set_option maxRecDepth 100000 in
set_option maxHeartbeats 2000000 in
theorem ref_object_wF (a : Option Addr) (n c : Nat) (l : List Int) (k : Nat) (big : Bool) (key : Int) (hkey : key = if big = true then 87 else 119) (w : World) (ha : Ints w a l) (hn : l.length = n) (h2 : n ≤ 4096) (hk : k < n) :
  Calls Try.prog 234 #[.slice a n c, .int .i64 (k : Int), .bool false, .int .i64 key] w (Out3 (OfWP l false k big) w) := by
 have HN := Lib.hid hn; clear hn
 have hm : ¬ (k : Int) < 0 := by omega
 have hk1 : ¬ ((n : Int) ≤ (k : Int)) := by omega
 have hn1 : ((n : Int) == 0) = false := by simp; omega
 have ik : (k : Int) < (n : Int) := by omega
 rcases big with _ | _
 all_goals
  simp at hkey
  subst hkey
  go_enter Try.func234, Try.ntmps234
  go_upto_region 3 with fail
  go_cut [37] (fun v wx => v = .bool false ∧ w = wx)
  case first =>
   by_cases hk0 : (0 : Int) < (k : Int)
   all_goals
    go_wp2
    go_meet
    exact ⟨rfl, rfl⟩
  obtain ⟨rfl, rfl⟩ := hcut
  go_wp2_with fail
  refine (ref_runOf a n c l _ k _ ha HN.out h2 hk).mono ?_
  rintro e w2 ⟨f, t, rfl, hR, hb2⟩
  have htl := hR.len
  have HR := Lib.hid hR
  clear hR
  have ha2 := ha.below hb2
  obtain ⟨b1, o1, rfl, hc0⟩ := ha2.at (k := k) (by rw [HN.out]; exact hk)
  have ck := hc0 k (by rw [HN.out]; exact hk)
  clear hc0
  go_wp2_with fail
  refine (ref_kindOf (ix l k) _ _).mono ?_
  rintro e w' ⟨rfl, rfl⟩
  go_wp2
  go_ret3
  exact ⟨f, t, 0, rfl, .inr ⟨by rw [HN.out]; omega, rfl, f, t, rfl, rfl, f, t, HR.out, by simp⟩, hb2⟩
set_option maxRecDepth 100000 in
set_option maxHeartbeats 4000000 in
theorem ref_object_wTF (a : Option Addr) (n c : Nat) (l : List Int) (k : Nat) (w : World) (ha : Ints w a l) (hn : l.length = n) (h2 : n ≤ 4096) (hk : k < n) :
  Calls Try.prog 234 #[.slice a n c, .int .i64 (k : Int), .bool true, .int .i64 119] w (Out3 (OfWP l true k false) w) := by
 have HN := Lib.hid hn; clear hn
 have hm : ¬ (k : Int) < 0 := by omega
 have hk1 : ¬ ((n : Int) ≤ (k : Int)) := by omega
 have hn1 : ((n : Int) == 0) = false := by simp; omega
 have ik : (k : Int) < (n : Int) := by omega
 have hn0 : 0 < n := by omega
 go_enter Try.func234, Try.ntmps234
 go_upto_region 3 with fail
 go_cut [37] (fun v wx => v = .bool false ∧ w = wx)
 case first =>
  by_cases hk0 : (0 : Int) < (k : Int)
  all_goals
   go_wp2
   go_meet
   exact ⟨rfl, rfl⟩
 obtain ⟨rfl, rfl⟩ := hcut
 go_wp2_with fail
 refine (ref_runOf a n c l _ k _ ha HN.out h2 hk).mono ?_
 rintro e w3 ⟨f, t, rfl, hR, hb3⟩
 have htl := hR.len
 have hfk := hR.lo
 have HR := Lib.hid hR
 clear hR
 have ha3 := ha.below hb3
 obtain ⟨b1, o1, rfl, hc0⟩ := ha3.at (k := k) (by rw [HN.out]; exact hk)
 have HC := Lib.hid (show ∀ i, i < n → w3.cell? ⟨b1, o1 + i, none⟩ = some (.int .i64 (ix l i)) from fun i hi => hc0 i (by rw [HN.out]; exact hi))
 have ck := HC.out k hk
 clear hc0
 go_wp2_with fail
 refine (ref_kindOf (ix l k) _ _).mono ?_
 rintro e w' ⟨rfl, rfl⟩
 obtain ⟨bl, hbl⟩ : ∃ bl : Bool, (kindS (ix l k) false == 0) = bl := ⟨_, rfl⟩
 have HBL := Lib.hid hbl
 have htn : t ≤ n := by rw [HN.out] at htl; exact htl
 clear htl
 go_upto_region 11 with fail
 obtain ⟨C1, hC1⟩ : ∃ C1 : Bool, C1 = decide (t < n ∧ (kindS (ix l k) false = 0 ∨ kindS (ix l t) false = 0)) := ⟨_, rfl⟩
 have HC1 := Lib.hid hC1
 clear hC1
 obtain ⟨W3, hW3⟩ : ∃ W3, W3 = w3 := ⟨_, rfl⟩
 go_cut [81] (fun v wx => v = .bool C1 ∧ wx = W3)
 case first =>
  by_cases hlt : t < n
  ·have i1 : (t : Int) < (n : Int) := by omega
   rcases bl with _ | _
   ·have hbk : kindS (ix l k) false ≠ 0 := by simpa using hbl
    have cj := HC.out t hlt
    clear hbl
    go_wp2_with fail
    refine (ref_kindOf (ix l t) false _).mono ?_
    rintro e w' ⟨rfl, rfl⟩
    by_cases hkt : kindS (ix l t) false = 0
    ·have hb1 : C1 = true := by rw [HC1.out]; simp [hlt, hkt]
     rw [hkt]
     go_wp2
     go_meet
     exact ⟨by rw [hb1], hW3.symm⟩
    ·have hb1 : C1 = false := by rw [HC1.out]; simp [hlt, hkt, hbk]
     have g1' : (kindS (ix l t) false == 0) = false := by simpa using hkt
     clear hkt
     go_wp2
     go_meet
     exact ⟨by rw [hb1], hW3.symm⟩
   ·have hbk : kindS (ix l k) false = 0 := by simpa using hbl
    have hb1 : C1 = true := by rw [HC1.out]; simp [hlt, hbk]
    clear hbl hbk
    go_wp2
    go_meet
    exact ⟨by rw [hb1], hW3.symm⟩
  ·have hb1 : C1 = false := by rw [HC1.out]; simp [hlt]
   clear hbl
   go_wp2
   go_meet
   exact ⟨by rw [hb1], hW3.symm⟩
 obtain ⟨rfl, hw⟩ := hcut
 obtain rfl : w3 = wc := (hw.trans hW3).symm
 clear hw hW3 hbl
 rcases hC1 : C1 with _ | _
 ·have HNC := Lib.hid (show ¬ (t < n ∧ (kindS (ix l k) false = 0 ∨ kindS (ix l t) false = 0)) by have := HC1.out; rw [hC1] at this; simpa using this.symm)
  subst hC1
  go_upto_region 13 with fail
  obtain ⟨C2, hC2⟩ : ∃ C2 : Bool, C2 = decide (kindS (ix l k) false ≠ 0 ∧ 0 < f ∧ kindS (ix l (f - 1)) false = 0) := ⟨_, rfl⟩
  have HC2 := Lib.hid hC2
  clear hC2
  obtain ⟨W3, hW3⟩ : ∃ W3, W3 = w3 := ⟨_, rfl⟩
  go_cut [107] (fun v wx => v = .bool C2 ∧ wx = W3)
  case first =>
   have hbl := HBL.out
   rcases bl with _ | _
   ·have hbk : kindS (ix l k) false ≠ 0 := by simpa using hbl
    clear hbl
    by_cases hf0 : f = 0
    ·subst hf0
     have hb1 : C2 = false := by rw [HC2.out]; simp
     go_wp2
     go_meet
     exact ⟨by rw [hb1], hW3.symm⟩
    ·have cj := HC.out (f - 1) (by omega)
     have i1 : (0 : Int) < (f : Int) := by omega
     have i2 : ((f : Int) - 1).toNat = f - 1 := by omega
     have i3 : (0 : Int) ≤ (f : Int) - 1 := by omega
     have i4 : (f : Int) - 1 < (n : Int) := by omega
     go_wp2_with fail
     refine (ref_kindOf (ix l (f - 1)) false _).mono ?_
     rintro e w' ⟨rfl, rfl⟩
     by_cases hkt : kindS (ix l (f - 1)) false = 0
     ·have hb1 : C2 = true := by rw [HC2.out]; simp [hkt, hbk]; omega
      rw [hkt]
      go_wp2
      go_meet
      exact ⟨by rw [hb1], hW3.symm⟩
     ·have hb1 : C2 = false := by rw [HC2.out]; simp [hkt]
      have g1' : (kindS (ix l (f - 1)) false == 0) = false := by simpa using hkt
      clear hkt
      go_wp2
      go_meet
      exact ⟨by rw [hb1], hW3.symm⟩
   ·have hbk : kindS (ix l k) false = 0 := by simpa using hbl
    have hb1 : C2 = false := by rw [HC2.out]; simp [hbk]
    clear hbl hbk
    go_wp2
    go_meet
    exact ⟨by rw [hb1], hW3.symm⟩
  obtain ⟨rfl, hw⟩ := hcut
  obtain rfl : w3 = wc := (hw.trans hW3).symm
  clear hw hW3
  rcases hC2 : C2 with _ | _
  ·have HND := Lib.hid (show ¬ (kindS (ix l k) false ≠ 0 ∧ 0 < f ∧ kindS (ix l (f - 1)) false = 0) by have := HC2.out; rw [hC2] at this; simpa using this.symm)
   subst hC2
   go_wp2
   go_ret3
   exact ⟨f, t, 0, rfl, .inr ⟨by rw [HN.out]; exact hn0, rfl, f, t, rfl, rfl, f, t, HR.out, by rw [if_neg (by rw [HN.out]; intro h; exact HNC.out h.2), if_neg (by intro h; exact HND.out h.2)]; exact ⟨rfl, rfl⟩⟩, hb3⟩
  ·have HND := Lib.hid (show (kindS (ix l k) false ≠ 0 ∧ 0 < f ∧ kindS (ix l (f - 1)) false = 0) by have := HC2.out; rw [hC2] at this; simpa using this.symm)
   subst hC2
   have hf0 := HND.out.2.1
   have i5 : (f : Int) - 1 = ((f - 1 : Nat) : Int) := by omega
   go_wp2_with fail
   try rw [i5]
   refine (ref_runOf (some ⟨b1, o1, none⟩) n c l false (f - 1) _ ha3 HN.out h2 (by omega)).mono ?_
   rintro e w5 ⟨f1, t1, rfl, hR5, hb5⟩
   have HR5 := Lib.hid hR5
   clear hR5
   have hb6 := below_then hb3 hb3.size hb5
   go_wp2
   go_ret3
   exact ⟨f1, t, 0, rfl, .inr ⟨by rw [HN.out]; exact hn0, rfl, f1, t, rfl, rfl, f, t, HR.out, by rw [if_neg (by rw [HN.out]; intro h; exact HNC.out h.2), if_pos ⟨rfl, HND.out⟩]; exact ⟨rfl, _, HR5.out⟩⟩, hb6⟩
 ·have HYC := Lib.hid (show (t < n ∧ (kindS (ix l k) false = 0 ∨ kindS (ix l t) false = 0)) by have := HC1.out; rw [hC1] at this; simpa using this.symm)
  subst hC1
  have htn' := HYC.out.1
  go_wp2_with fail
  refine (ref_runOf (some ⟨b1, o1, none⟩) n c l false t _ ha3 HN.out h2 htn').mono ?_
  rintro e w5 ⟨f1, t1, rfl, hR5, hb5⟩
  have HR5 := Lib.hid hR5
  clear hR5
  have hb6 := below_then hb3 hb3.size hb5
  go_wp2
  go_ret3
  exact ⟨f, t1, 0, rfl, .inr ⟨by rw [HN.out]; exact hn0, rfl, f, t1, rfl, rfl, f, t, HR.out, by rw [if_pos (by rw [HN.out]; exact ⟨rfl, HYC.out⟩)]; exact ⟨rfl, _, HR5.out⟩⟩, hb6⟩
set_option maxRecDepth 100000 in
set_option maxHeartbeats 4000000 in
theorem ref_object_wTT (a : Option Addr) (n c : Nat) (l : List Int) (k : Nat) (w : World) (ha : Ints w a l) (hn : l.length = n) (h2 : n ≤ 4096) (hk : k < n) :
  Calls Try.prog 234 #[.slice a n c, .int .i64 (k : Int), .bool true, .int .i64 87] w (Out3 (OfWP l true k true) w) := by
 have HN := Lib.hid hn; clear hn
 have hm : ¬ (k : Int) < 0 := by omega
 have hk1 : ¬ ((n : Int) ≤ (k : Int)) := by omega
 have hn1 : ((n : Int) == 0) = false := by simp; omega
 have ik : (k : Int) < (n : Int) := by omega
 have hn0 : 0 < n := by omega
 go_enter Try.func234, Try.ntmps234
 go_upto_region 3 with fail
 go_cut [37] (fun v wx => v = .bool false ∧ w = wx)
 case first =>
  by_cases hk0 : (0 : Int) < (k : Int)
  all_goals
   go_wp2
   go_meet
   exact ⟨rfl, rfl⟩
 obtain ⟨rfl, rfl⟩ := hcut
 go_wp2_with fail
 refine (ref_runOf a n c l _ k _ ha HN.out h2 hk).mono ?_
 rintro e w3 ⟨f, t, rfl, hR, hb3⟩
 have htl := hR.len
 have hfk := hR.lo
 have HR := Lib.hid hR
 clear hR
 have ha3 := ha.below hb3
 obtain ⟨b1, o1, rfl, hc0⟩ := ha3.at (k := k) (by rw [HN.out]; exact hk)
 have HC := Lib.hid (show ∀ i, i < n → w3.cell? ⟨b1, o1 + i, none⟩ = some (.int .i64 (ix l i)) from fun i hi => hc0 i (by rw [HN.out]; exact hi))
 have ck := HC.out k hk
 clear hc0
 go_wp2_with fail
 refine (ref_kindOf (ix l k) _ _).mono ?_
 rintro e w' ⟨rfl, rfl⟩
 obtain ⟨bl, hbl⟩ : ∃ bl : Bool, (kindS (ix l k) true == 0) = bl := ⟨_, rfl⟩
 have HBL := Lib.hid hbl
 have htn : t ≤ n := by rw [HN.out] at htl; exact htl
 clear htl
 go_upto_region 11 with fail
 obtain ⟨C1, hC1⟩ : ∃ C1 : Bool, C1 = decide (t < n ∧ (kindS (ix l k) true = 0 ∨ kindS (ix l t) true = 0)) := ⟨_, rfl⟩
 have HC1 := Lib.hid hC1
 clear hC1
 obtain ⟨W3, hW3⟩ : ∃ W3, W3 = w3 := ⟨_, rfl⟩
 go_cut [81] (fun v wx => v = .bool C1 ∧ wx = W3)
 case first =>
  by_cases hlt : t < n
  ·have i1 : (t : Int) < (n : Int) := by omega
   rcases bl with _ | _
   ·have hbk : kindS (ix l k) true ≠ 0 := by simpa using hbl
    have cj := HC.out t hlt
    clear hbl
    go_wp2_with fail
    refine (ref_kindOf (ix l t) true _).mono ?_
    rintro e w' ⟨rfl, rfl⟩
    by_cases hkt : kindS (ix l t) true = 0
    ·have hb1 : C1 = true := by rw [HC1.out]; simp [hlt, hkt]
     rw [hkt]
     go_wp2
     go_meet
     exact ⟨by rw [hb1], hW3.symm⟩
    ·have hb1 : C1 = false := by rw [HC1.out]; simp [hlt, hkt, hbk]
     have g1' : (kindS (ix l t) true == 0) = false := by simpa using hkt
     clear hkt
     go_wp2
     go_meet
     exact ⟨by rw [hb1], hW3.symm⟩
   ·have hbk : kindS (ix l k) true = 0 := by simpa using hbl
    have hb1 : C1 = true := by rw [HC1.out]; simp [hlt, hbk]
    clear hbl hbk
    go_wp2
    go_meet
    exact ⟨by rw [hb1], hW3.symm⟩
  ·have hb1 : C1 = false := by rw [HC1.out]; simp [hlt]
   clear hbl
   go_wp2
   go_meet
   exact ⟨by rw [hb1], hW3.symm⟩
 obtain ⟨rfl, hw⟩ := hcut
 obtain rfl : w3 = wc := (hw.trans hW3).symm
 clear hw hW3 hbl
 rcases hC1 : C1 with _ | _
 ·have HNC := Lib.hid (show ¬ (t < n ∧ (kindS (ix l k) true = 0 ∨ kindS (ix l t) true = 0)) by have := HC1.out; rw [hC1] at this; simpa using this.symm)
  subst hC1
  go_upto_region 13 with fail
  obtain ⟨C2, hC2⟩ : ∃ C2 : Bool, C2 = decide (kindS (ix l k) true ≠ 0 ∧ 0 < f ∧ kindS (ix l (f - 1)) true = 0) := ⟨_, rfl⟩
  have HC2 := Lib.hid hC2
  clear hC2
  obtain ⟨W3, hW3⟩ : ∃ W3, W3 = w3 := ⟨_, rfl⟩
  go_cut [107] (fun v wx => v = .bool C2 ∧ wx = W3)
  case first =>
   have hbl := HBL.out
   rcases bl with _ | _
   ·have hbk : kindS (ix l k) true ≠ 0 := by simpa using hbl
    clear hbl
    by_cases hf0 : f = 0
    ·subst hf0
     have hb1 : C2 = false := by rw [HC2.out]; simp
     go_wp2
     go_meet
     exact ⟨by rw [hb1], hW3.symm⟩
    ·have cj := HC.out (f - 1) (by omega)
     have i1 : (0 : Int) < (f : Int) := by omega
     have i2 : ((f : Int) - 1).toNat = f - 1 := by omega
     have i3 : (0 : Int) ≤ (f : Int) - 1 := by omega
     have i4 : (f : Int) - 1 < (n : Int) := by omega
     go_wp2_with fail
     refine (ref_kindOf (ix l (f - 1)) true _).mono ?_
     rintro e w' ⟨rfl, rfl⟩
     by_cases hkt : kindS (ix l (f - 1)) true = 0
     ·have hb1 : C2 = true := by rw [HC2.out]; simp [hkt, hbk]; omega
      rw [hkt]
      go_wp2
      go_meet
      exact ⟨by rw [hb1], hW3.symm⟩
     ·have hb1 : C2 = false := by rw [HC2.out]; simp [hkt]
      have g1' : (kindS (ix l (f - 1)) true == 0) = false := by simpa using hkt
      clear hkt
      go_wp2
      go_meet
      exact ⟨by rw [hb1], hW3.symm⟩
   ·have hbk : kindS (ix l k) true = 0 := by simpa using hbl
    have hb1 : C2 = false := by rw [HC2.out]; simp [hbk]
    clear hbl hbk
    go_wp2
    go_meet
    exact ⟨by rw [hb1], hW3.symm⟩
  obtain ⟨rfl, hw⟩ := hcut
  obtain rfl : w3 = wc := (hw.trans hW3).symm
  clear hw hW3
  rcases hC2 : C2 with _ | _
  ·have HND := Lib.hid (show ¬ (kindS (ix l k) true ≠ 0 ∧ 0 < f ∧ kindS (ix l (f - 1)) true = 0) by have := HC2.out; rw [hC2] at this; simpa using this.symm)
   subst hC2
   go_wp2
   go_ret3
   exact ⟨f, t, 0, rfl, .inr ⟨by rw [HN.out]; exact hn0, rfl, f, t, rfl, rfl, f, t, HR.out, by rw [if_neg (by rw [HN.out]; intro h; exact HNC.out h.2), if_neg (by intro h; exact HND.out h.2)]; exact ⟨rfl, rfl⟩⟩, hb3⟩
  ·have HND := Lib.hid (show (kindS (ix l k) true ≠ 0 ∧ 0 < f ∧ kindS (ix l (f - 1)) true = 0) by have := HC2.out; rw [hC2] at this; simpa using this.symm)
   subst hC2
   have hf0 := HND.out.2.1
   have i5 : (f : Int) - 1 = ((f - 1 : Nat) : Int) := by omega
   go_wp2_with fail
   try rw [i5]
   refine (ref_runOf (some ⟨b1, o1, none⟩) n c l true (f - 1) _ ha3 HN.out h2 (by omega)).mono ?_
   rintro e w5 ⟨f1, t1, rfl, hR5, hb5⟩
   have HR5 := Lib.hid hR5
   clear hR5
   have hb6 := below_then hb3 hb3.size hb5
   go_wp2
   go_ret3
   exact ⟨f1, t, 0, rfl, .inr ⟨by rw [HN.out]; exact hn0, rfl, f1, t, rfl, rfl, f, t, HR.out, by rw [if_neg (by rw [HN.out]; intro h; exact HNC.out h.2), if_pos ⟨rfl, HND.out⟩]; exact ⟨rfl, _, HR5.out⟩⟩, hb6⟩
 ·have HYC := Lib.hid (show (t < n ∧ (kindS (ix l k) true = 0 ∨ kindS (ix l t) true = 0)) by have := HC1.out; rw [hC1] at this; simpa using this.symm)
  subst hC1
  have htn' := HYC.out.1
  go_wp2_with fail
  refine (ref_runOf (some ⟨b1, o1, none⟩) n c l true t _ ha3 HN.out h2 htn').mono ?_
  rintro e w5 ⟨f1, t1, rfl, hR5, hb5⟩
  have HR5 := Lib.hid hR5
  clear hR5
  have hb6 := below_then hb3 hb3.size hb5
  go_wp2
  go_ret3
  exact ⟨f, t1, 0, rfl, .inr ⟨by rw [HN.out]; exact hn0, rfl, f, t1, rfl, rfl, f, t, HR.out, by rw [if_pos (by rw [HN.out]; exact ⟨rfl, HYC.out⟩)]; exact ⟨rfl, _, HR5.out⟩⟩, hb6⟩
theorem quotes_found {l P : List Int} {q : Int} {k m : Nat} (h : QPl l q l.length P) (h1 : 2 * m + 1 < P.length) (h2 : (k : Int) ≤ ix P (2 * m + 1)) (h3 : ∀ m', m' < m → ix P (2 * m' + 1) < k) :
  ∃ i, i < l.length ∧ QFound l k q i ∧ (∀ j, j < i → ¬ QFound l k q j) ∧ ix P (2 * m + 1) = i ∧ ix P (2 * m) = quoteS l q i := by
 obtain ⟨t, e1, e2, e3, e4⟩ := h.hit m h1
 have h0 := (h.low (2 * m) (by omega)).1
 refine ⟨t, e2, ⟨e3, by rw [e4]; exact h0, by omega⟩, fun j hj hf => ?_, e1, e4.symm⟩
 obtain ⟨m2, g1, g2⟩ := h.all j (by omega) hf.1 hf.2.1
 have hk := hf.2.2
 rcases Nat.lt_trichotomy m2 m with hh | hh | hh
 ·have := h3 m2 hh; omega
 ·subst hh; omega
 ·have := h.up (2 * m + 1) (2 * m2 + 1) (by omega) g1; omega
set_option maxRecDepth 100000 in
set_option maxHeartbeats 2000000 in
theorem ref_object_q (a : Option Addr) (n c : Nat) (l : List Int) (k : Nat) (around : Bool) (key : Int) (hkey : key = 34 ∨ key = 39 ∨ key = 96) (w : World) (ha : Ints w a l) (hn : l.length = n) (h2 : n ≤ 4096) (hc : n ≤ c) (hc2 : c ≤ 9223372036854775807) (hk : k < n ∨ k = 0 ∧ n = 0) :
  Calls Try.prog 234 #[.slice a n c, .int .i64 (k : Int), .bool around, .int .i64 key] w (Out3 (QuotesP l k around key) w) := by
 have HN := Lib.hid hn; clear hn
 have hm : ¬ (k : Int) < 0 := by omega
 have hk4 : (k : Int) ≤ 4096 := by omega
 have HK := Lib.hid hk; clear hk
 have g119 : (key == 119) = false := by rcases hkey with rfl | rfl | rfl <;> decide
 have g87 : (key == 87) = false := by rcases hkey with rfl | rfl | rfl <;> decide
 have HKEY := Lib.hid hkey
 clear hkey
 go_enter Try.func234, Try.ntmps234
 go_upto_region 3 with fail
 go_cut [37] (fun v wx => v = .bool false ∧ w = wx)
 case first =>
  have := HK.out
  by_cases hk0 : (0 : Int) < (k : Int)
  ·have hkn : ¬ (n : Int) ≤ (k : Int) := by omega
   clear this
   go_wp2
   go_meet
   exact ⟨rfl, rfl⟩
  ·clear this
   go_wp2
   go_meet
   exact ⟨rfl, rfl⟩
 obtain ⟨rfl, rfl⟩ := hcut
 obtain ⟨wd, hwd⟩ : ∃ wd : Nat, (if around = true then 1 else 0) = wd := ⟨_, rfl⟩
 have hwd1 : wd ≤ 1 := by rcases around with _ | _ <;> simp at hwd <;> omega
 have HWD := Lib.hid hwd
 clear hwd
 go_upto_if 118 with fail
 go_cut [15] (fun v wx => v = .int .i64 (wd : Int) ∧ w = wx)
 case first =>
  have := HWD.out
  rcases around with _ | _
  ·have : wd = 0 := by simpa using this.symm
   subst this
   go_wp2
   go_meet
   exact ⟨rfl, rfl⟩
  ·have : wd = 1 := by simpa using this.symm
   subst this
   go_wp2
   go_meet
   exact ⟨rfl, rfl⟩
 obtain ⟨rfl, rfl⟩ := hcut
 go_upto_region 19 with fail
 go_cut [128] (fun v wx => v = .bool true ∧ w = wx)
 case first =>
  have := HKEY.out
  rcases this with rfl | rfl | rfl
  all_goals
   go_wp2
   go_meet
   exact ⟨rfl, rfl⟩
 obtain ⟨rfl, rfl⟩ := hcut
 have hI : Ints (w.alloc (.cells #[.int .i64 key] 3)) (some ⟨w.heap.size, 0, none⟩) [key] := .inr ⟨_, 0, rfl, fun i hi => by
  obtain rfl : i = 0 := by simp at hi; exact hi
  exact cell_new1 w _ _⟩
 have hb := below1 w (.cells #[.int .i64 key] 3)
 go_wp2_with fail
 refine (ref_places1 (some ⟨w.heap.size, 0, none⟩) a 1 1 n c [key] l _ hI (ha.below hb) rfl HN.out (by omega) h2 hc hc2 (by omega)).mono ?_
 rintro e w2 ⟨v, rfl, hown, hb2⟩
 have hbb := below_then hb hb.size hb2
 clear hI hb hb2
 rw [Nat.add_sub_cancel] at hown
 obtain ⟨va, vc, rfl, hvc, hvI⟩ := hown.ints
 clear hown
 obtain ⟨P, hP⟩ : ∃ P, placesS [key] l n = P := ⟨_, rfl⟩
 rw [hP] at hvI hvc ⊢
 have HQ := Lib.hid (show QPl l key l.length P by rw [← hP, HN.out]; exact QPl.run l key n (by rw [HN.out]; exact Nat.le_refl _))
 have hPl : P.length ≤ n := by rw [← hP]; exact placesS_length [key] l n
 have HLOW := Lib.hid (show ∀ m, m < P.length → 0 ≤ ix P m ∧ ix P m < n by have := HQ.out.low; rw [HN.out] at this; exact this)
 clear hP
 go_wp2
 go_loopw [17] (fun i wr => ∃ j : Nat, i = .int .i64 (j : Int) ∧ j % 2 = 0 ∧ j ≤ P.length + 1 ∧ (∀ m, 2 * m < j → 2 * m + 1 < P.length → ix P (2 * m + 1) < k) ∧ w2 = wr) (fun i _ => P.length + 2 - (intOf i).toNat)
 case atStart => exact ⟨0, rfl, rfl, by omega, fun m h => by omega, rfl⟩
 case round =>
  obtain ⟨j, rfl, hj2, hj, hno, rfl⟩ := hrel
  have HNO := Lib.hid hno
  clear hno
  by_cases hlt : j + 1 < P.length
  ·obtain ⟨b1, o1, rfl, hc0⟩ := hvI.at hlt
   have c1 := hc0 (j + 1) hlt
   have c0 := hc0 j (by omega)
   obtain ⟨l1, l2⟩ := HLOW.out (j + 1) hlt
   obtain ⟨l3, l4⟩ := HLOW.out j (by omega)
   have i1 : (j : Int) + 1 < (P.length : Int) := by omega
   have i2 : ((j : Int) + 1).toNat = j + 1 := by omega
   have i3 : (j : Int) < (P.length : Int) := by omega
   have HJ := Lib.hid (show 2 * (j / 2) = j by omega)
   clear hc0
   by_cases hf : (k : Int) ≤ ix P (j + 1)
   ·have HF := Lib.hid (quotes_found (k := k) (m := j / 2) HQ.out (by rw [HJ.out]; exact hlt) (by rw [HJ.out]; exact hf) (fun m' hm' => HNO.out m' (by have := HJ.out; omega) (by have := HJ.out; omega)))
    go_wp2
    go_quiet (fail)
    go_wp2
    go_ret3
    obtain ⟨i, g1, g2, g3, g4, g5⟩ := HF.out
    rw [HJ.out] at g4 g5
    refine ⟨_, _, _, rfl, .inl ⟨i, g1, g2, g3, ?_, ?_, rfl⟩, below_drewN hbb _⟩
    ·rw [← g5]; have := HWD.out; rcases around with _ | _ <;> simp at this <;> subst this <;> simp
    ·rw [← g4]; have := HWD.out; rcases around with _ | _ <;> simp at this <;> subst this <;> simp
   ·have HN2 := Lib.hid (show ∀ m, 2 * m < j + 2 → 2 * m + 1 < P.length → ix P (2 * m + 1) < k by
     intro m h1 h2
     rcases Nat.lt_or_ge (2 * m) j with h | h
     ·exact HNO.out m h h2
     ·obtain rfl : 2 * m = j := by omega
      omega)
    go_wp2
    go_roundw
    case rel => exact ⟨j + 2, by go_num, by omega, by omega, HN2.out, by first | rfl | trivial⟩
    case measure => simp [intOf]; omega
  ·have i1 : ¬ (j : Int) + 1 < (P.length : Int) := by omega
   go_wp2
   go_ret3
   refine ⟨0, 0, 6, rfl, .inr ⟨fun i hi => quotes_no HQ.out (fun m hm => HNO.out m (by omega) hm) i hi, rfl, rfl, rfl⟩, hbb⟩
set_option maxRecDepth 100000 in
set_option maxHeartbeats 1000000 in
theorem ref_object_key (a : Option Addr) (n c : Nat) (k : Nat) (around : Bool) (key : Int) (hw : key ≠ 119) (hW : key ≠ 87) (hq1 : key ≠ 34) (hq2 : key ≠ 39) (hq3 : key ≠ 96) (h0 : openS key = 0) (w : World) (h2 : n ≤ 4096) (hk : k < n ∨ k = 0 ∧ n = 0) :
  Calls Try.prog 234 #[.slice a n c, .int .i64 (k : Int), .bool around, .int .i64 key] w (Out3 (fun x y z => x = 0 ∧ y = 0 ∧ z = 9) w) := by
 have hm : ¬ (k : Int) < 0 := by omega
 have hk4 : (k : Int) ≤ 4096 := by omega
 have HK := Lib.hid hk; clear hk
 have H0 := Lib.hid h0; clear h0
 have b1 : (key == 119) = false := by simpa using hw
 have b2 : (key == 87) = false := by simpa using hW
 have b3 : (key == 34) = false := by simpa using hq1
 have b4 : (key == 39) = false := by simpa using hq2
 have b5 : (key == 96) = false := by simpa using hq3
 clear hw hW hq1 hq2 hq3
 go_enter Try.func234, Try.ntmps234
 go_upto_region 3 with fail
 go_cut [37] (fun v wx => v = .bool false ∧ w = wx)
 case first =>
  have := HK.out
  by_cases hk0 : (0 : Int) < (k : Int)
  ·have hkn : ¬ (n : Int) ≤ (k : Int) := by omega
   clear this
   go_wp2
   go_meet
   exact ⟨rfl, rfl⟩
  ·clear this
   go_wp2
   go_meet
   exact ⟨rfl, rfl⟩
 obtain ⟨rfl, rfl⟩ := hcut
 obtain ⟨wd, hwd⟩ : ∃ wd : Nat, (if around = true then 1 else 0) = wd := ⟨_, rfl⟩
 have hwd1 : wd ≤ 1 := by rcases around with _ | _ <;> simp at hwd <;> omega
 have HWD := Lib.hid hwd
 clear hwd
 go_upto_if 118 with fail
 go_cut [15] (fun v wx => v = .int .i64 (wd : Int) ∧ w = wx)
 case first =>
  have := HWD.out
  rcases around with _ | _
  ·have : wd = 0 := by simpa using this.symm
   subst this
   go_wp2
   go_meet
   exact ⟨rfl, rfl⟩
  ·have : wd = 1 := by simpa using this.symm
   subst this
   go_wp2
   go_meet
   exact ⟨rfl, rfl⟩
 obtain ⟨rfl, rfl⟩ := hcut
 go_wp2_with fail
 refine (ref_bracket key _).mono ?_
 rintro e w2 ⟨rfl, hb2⟩
 rw [H0.out]
 obtain ⟨cl, hcl⟩ : ∃ cl, closeS key = cl := ⟨_, rfl⟩
 rw [hcl]
 clear hcl
 go_wp2
 go_ret3
 exact ⟨0, 0, 9, rfl, ⟨rfl, rfl, rfl⟩, hb2⟩
def BestP (l ps : List Int) (k : Nat) (o : Int) (i : Nat) (b : Int) : Prop :=
 (b = -1 ∧ ∀ j, j < i → j ≤ k → ¬ BFound l ps k o j) ∨ (∃ t : Nat, b = t ∧ t < i ∧ t ≤ k ∧ BFound l ps k o t ∧ ∀ j, t < j → j < i → j ≤ k → ¬ BFound l ps k o j)
theorem BestP.skip {l ps : List Int} {k : Nat} {o : Int} {i : Nat} {b : Int} (h : BestP l ps k o i b) (hn : i ≤ k → ¬ BFound l ps k o i) : BestP l ps k o (i + 1) b := by
 rcases h with ⟨h1, h2⟩ | ⟨t, h1, h2, h3, h4, h5⟩
 ·refine .inl ⟨h1, fun j hj hk => ?_⟩
  rcases Nat.lt_succ_iff_lt_or_eq.1 hj with h | rfl
  ·exact h2 j h hk
  ·exact hn hk
 ·refine .inr ⟨t, h1, by omega, h3, h4, fun j h6 hj hk => ?_⟩
  rcases Nat.lt_succ_iff_lt_or_eq.1 hj with h | rfl
  ·exact h5 j h6 h hk
  ·exact hn hk
theorem BestP.hit {l ps : List Int} {k : Nat} {o : Int} {i : Nat} (hk : i ≤ k) (hf : BFound l ps k o i) : BestP l ps k o (i + 1) (i : Int) :=
 .inr ⟨i, rfl, by omega, hk, hf, fun j h1 h2 h3 => by omega⟩
theorem BestP.range {l ps : List Int} {k : Nat} {o : Int} {i : Nat} {b : Int} (h : BestP l ps k o i b) : -1 ≤ b ∧ b < i := by
 rcases h with ⟨h1, h2⟩ | ⟨t, h1, h2, h3, h4, h5⟩
 ·omega
 ·omega
set_option maxRecDepth 100000 in
set_option maxHeartbeats 2000000 in
theorem ref_object_b (a : Option Addr) (n c : Nat) (l ps : List Int) (hps : (pRun l n n).out = ps) (k : Nat) (around : Bool) (key o : Int) (hw : key ≠ 119) (hW : key ≠ 87) (hq1 : key ≠ 34) (hq2 : key ≠ 39) (hq3 : key ≠ 96) (hkey : openS key = o) (h0 : o ≠ 0) (w : World) (ha : Ints w a l) (hn : l.length = n) (h2 : n ≤ 4096) (hk : k < n ∨ k = 0 ∧ n = 0) :
  Calls Try.prog 234 #[.slice a n c, .int .i64 (k : Int), .bool around, .int .i64 key] w (Out3 (BracketsP l ps k around o) w) := by
 have HN := Lib.hid hn; clear hn
 have HPS := Lib.hid hps; clear hps
 have HPP := Lib.hid (show ∀ i, i < n → PartnerP l n i (ix ps i) from fun i hi => by rw [← HPS.out]; exact pairs_partner l n i hi)
 have HPR := Lib.hid (show ∀ i, i < n → -1 ≤ ix ps i ∧ ix ps i < n from fun i hi => partner_range (HPP.out i hi) hi)
 have hm : ¬ (k : Int) < 0 := by omega
 have hk4 : (k : Int) ≤ 4096 := by omega
 have HK := Lib.hid hk; clear hk
 have HO := Lib.hid hkey; clear hkey
 have b1 : (key == 119) = false := by simpa using hw
 have b2 : (key == 87) = false := by simpa using hW
 have b3 : (key == 34) = false := by simpa using hq1
 have b4 : (key == 39) = false := by simpa using hq2
 have b5 : (key == 96) = false := by simpa using hq3
 have b6 : (o == 0) = false := by simpa using h0
 clear hw hW hq1 hq2 hq3 h0
 go_enter Try.func234, Try.ntmps234
 go_upto_region 3 with fail
 go_cut [37] (fun v wx => v = .bool false ∧ w = wx)
 case first =>
  have := HK.out
  by_cases hk0 : (0 : Int) < (k : Int)
  ·have hkn : ¬ (n : Int) ≤ (k : Int) := by omega
   clear this
   go_wp2
   go_meet
   exact ⟨rfl, rfl⟩
  ·clear this
   go_wp2
   go_meet
   exact ⟨rfl, rfl⟩
 obtain ⟨rfl, rfl⟩ := hcut
 obtain ⟨wd, hwd⟩ : ∃ wd : Nat, (if around = true then 1 else 0) = wd := ⟨_, rfl⟩
 have hwd1 : wd ≤ 1 := by rcases around with _ | _ <;> simp at hwd <;> omega
 have HWD := Lib.hid hwd
 clear hwd
 go_upto_if 118 with fail
 go_cut [15] (fun v wx => v = .int .i64 (wd : Int) ∧ w = wx)
 case first =>
  have := HWD.out
  rcases around with _ | _
  ·have : wd = 0 := by simpa using this.symm
   subst this
   go_wp2
   go_meet
   exact ⟨rfl, rfl⟩
  ·have : wd = 1 := by simpa using this.symm
   subst this
   go_wp2
   go_meet
   exact ⟨rfl, rfl⟩
 obtain ⟨rfl, rfl⟩ := hcut
 go_wp2_with fail
 refine (ref_bracket key _).mono ?_
 rintro e w2 ⟨rfl, hb2⟩
 rw [HO.out]
 obtain ⟨cl, hcl⟩ : ∃ cl, closeS key = cl := ⟨_, rfl⟩
 rw [hcl]
 clear hcl
 go_wp2
 go_loopw [170, 20] (fun v u wr => ∃ (i : Nat) (b : Int), v = .int .i64 (i : Int) ∧ u = .int .i64 b ∧ i ≤ n ∧ BestP l ps k o i b ∧ Below w.heap.size w wr) (fun v _ _ => n - (intOf v).toNat)
 case atStart => exact ⟨0, -1, rfl, rfl, by omega, .inl ⟨rfl, fun j hj => by omega⟩, hb2⟩
 case round =>
  obtain ⟨i, b, rfl, rfl, hi, hbest, hbr⟩ := hrel
  obtain ⟨br0, br1⟩ := hbest.range
  have HB := Lib.hid hbest
  clear hbest
  have har := ha.below hbr
  by_cases hlt : i < n
  ·obtain ⟨b1, o1, rfl, hc0⟩ := har.at (k := i) (by rw [HN.out]; exact hlt)
   have ck := hc0 i (by rw [HN.out]; exact hlt)
   have ii : (i : Int) < (n : Int) := by omega
   clear hc0
   by_cases hq : ix l i = o
   ·have g1 : (ix l i == o) = true := by simpa using hq
    by_cases hik : i ≤ k
    ·have hik2 : (i : Int) ≤ (k : Int) := by omega
     obtain ⟨p, hp⟩ : ∃ p, ix ps i = p := ⟨_, rfl⟩
     have HP := Lib.hid hp
     obtain ⟨pr0, pr1⟩ := HPR.out i hlt
     rw [hp] at pr0 pr1
     clear hp
     have HQ := Lib.hid hq
     clear hq
     go_wp2_with fail
     refine (ref_partner _ n c l i _ har HN.out h2 hlt).mono ?_
     rintro e w5 ⟨r, rfl, hr, hb5⟩
     obtain rfl : p = r := by rw [← HP.out]; exact (HPP.out i hlt).one hr
     clear hr
     have hb6 := below_then hbr hbr.size hb5
     by_cases hkp : (k : Int) ≤ p
     ·have HF := Lib.hid (show BFound l ps k o i from ⟨HQ.out, by rw [HP.out]; exact hkp⟩)
      go_wp2
      go_roundw
      case rel => exact ⟨i + 1, (i : Int), by go_num, rfl, by omega, BestP.hit hik HF.out, hb6⟩
      case measure => simp [intOf]; omega
     ·have HF := Lib.hid (show ¬ BFound l ps k o i from fun h => by have := h.2; rw [HP.out] at this; exact hkp this)
      go_wp2
      go_roundw
      case rel => exact ⟨i + 1, b, by go_num, rfl, by omega, HB.out.skip (fun _ => HF.out), hb6⟩
      case measure => simp [intOf]; omega
    ·have hik2 : ¬ (i : Int) ≤ (k : Int) := by omega
     go_wp2
     go_roundw
     case rel => exact ⟨i + 1, b, by go_num, rfl, by omega, HB.out.skip (fun h => absurd h hik), hbr⟩
     case measure => simp [intOf]; omega
   ·have g1 : (ix l i == o) = false := by simpa using hq
    have HQ := Lib.hid hq
    clear hq
    go_wp2
    go_roundw
    case rel => exact ⟨i + 1, b, by go_num, rfl, by omega, HB.out.skip (fun _ h => HQ.out h.1), hbr⟩
    case measure => simp [intOf]; omega
  ·obtain rfl : n = i := by omega
   by_cases hneg : b < 0
   ·have HNO := Lib.hid (show ∀ j, j < l.length → j ≤ k → ¬ BFound l ps k o j by
     rcases HB.out with ⟨_, h⟩ | ⟨t, h, _⟩
     ·rw [HN.out]; exact h
     ·omega)
    go_wp2
    go_ret3
    exact ⟨0, 0, 6, rfl, .inr ⟨HNO.out, rfl, rfl, rfl⟩, hbr⟩
   ·obtain ⟨t, rfl, htn⟩ : ∃ t : Nat, b = t ∧ t < n := ⟨b.toNat, by omega, by omega⟩
    have HF := Lib.hid (show t ≤ k ∧ BFound l ps k o t ∧ ∀ j, t < j → j ≤ k → j < l.length → ¬ BFound l ps k o j by
     rcases HB.out with ⟨h, _⟩ | ⟨t', h1, h2, h3, h4, h5⟩
     ·omega
     ·obtain rfl : t = t' := by omega
      exact ⟨h3, h4, fun j h6 h7 h8 => h5 j h6 (by rw [HN.out] at h8; exact h8) h7⟩)
    obtain ⟨p, hp⟩ : ∃ p, ix ps t = p := ⟨_, rfl⟩
    have HP := Lib.hid hp
    obtain ⟨pr0, pr1⟩ := HPR.out t htn
    rw [hp] at pr0 pr1
    clear hp
    go_wp2_with fail
    refine (ref_partner _ n c l t _ har HN.out h2 htn).mono ?_
    rintro e w5 ⟨r, rfl, hr, hb5⟩
    obtain rfl : p = r := by rw [← HP.out]; exact (HPP.out t htn).one hr
    clear hr
    have hb6 := below_then hbr hbr.size hb5
    go_wp2
    go_ret3
    refine ⟨_, _, _, rfl, .inl ⟨t, by rw [HN.out]; exact htn, HF.out.1, HF.out.2.1, HF.out.2.2, ?_, ?_, rfl⟩, hb6⟩
    ·have := HWD.out; rcases around with _ | _ <;> simp at this <;> subst this <;> simp
    ·rw [HP.out]; have := HWD.out; rcases around with _ | _ <;> simp at this <;> subst this <;> simp
theorem ref_object_in (a : Option Addr) (n c : Nat) (l : List Int) (k : Nat) (around : Bool) (key : Int) (w : World) (ha : Ints w a l) (hn : l.length = n) (h2 : n ≤ 4096) (hc : n ≤ c) (hc2 : c ≤ 9223372036854775807) (hk : k < n ∨ k = 0 ∧ n = 0) :
  Calls Try.prog 234 #[.slice a n c, .int .i64 (k : Int), .bool around, .int .i64 key] w (Out3 (OfP l (pRun l n n).out around k key) w) := by
 have fin : ∀ (P Q : Int → Int → Int → Prop), (∀ x y z, P x y z → Q x y z) → ∀ e w', Out3 P w e w' → Out3 Q w e w' := by
  rintro P Q hPQ e w' ⟨x, y, z, he, hP, hb⟩
  exact ⟨x, y, z, he, hPQ x y z hP, hb⟩
 have words : ∀ (big : Bool) (key : Int), (key = if big = true then 87 else 119) → Calls Try.prog 234 #[.slice a n c, .int .i64 (k : Int), .bool around, .int .i64 key] w (Out3 (OfWP l around k big) w) := by
  intro big key hkey
  by_cases hn0 : n = 0
  ·subst hn0
   obtain rfl : k = 0 := by omega
   exact ref_object_w0 a c l big around key hkey w hn
  ·have hk' : k < n := by omega
   rcases around with _ | _
   ·exact ref_object_wF a n c l k big key hkey w ha hn h2 hk'
   ·rcases big with _ | _ <;> simp at hkey <;> subst hkey
    ·exact ref_object_wTF a n c l k w ha hn h2 hk'
    ·exact ref_object_wTT a n c l k w ha hn h2 hk'
 by_cases h1 : key = 119
 ·exact (words false key (by simpa using h1)).mono (fin _ _ fun x y z h => by unfold OfP; rw [if_pos h1]; exact h)
 ·by_cases h3 : key = 87
  ·exact (words true key (by simpa using h3)).mono (fin _ _ fun x y z h => by unfold OfP; rw [if_neg h1, if_pos h3]; exact h)
  ·by_cases h4 : key = 34 ∨ key = 39 ∨ key = 96
   ·exact (ref_object_q a n c l k around key h4 w ha hn h2 hc hc2 hk).mono (fin _ _ fun x y z h => by unfold OfP; rw [if_neg h1, if_neg h3, if_pos h4]; exact h)
   ·by_cases h5 : openS key = 0
    ·exact (ref_object_key a n c k around key h1 h3 (fun h => h4 (.inl h)) (fun h => h4 (.inr (.inl h))) (fun h => h4 (.inr (.inr h))) h5 w h2 hk).mono (fin _ _ fun x y z h => by unfold OfP; rw [if_neg h1, if_neg h3, if_neg h4, if_pos h5]; exact h)
    ·exact (ref_object_b a n c l _ rfl k around key _ h1 h3 (fun h => h4 (.inl h)) (fun h => h4 (.inr (.inl h))) (fun h => h4 (.inr (.inr h))) rfl h5 w ha hn h2 hk).mono (fin _ _ fun x y z h => by unfold OfP; rw [if_neg h1, if_neg h3, if_neg h4, if_neg h5]; exact h)
def SpPost (f g er : Int) (w : World) (e : Ending) (w' : World) : Prop := e = .returned (.tuple #[.int .i64 f, .int .i64 g, .int .i64 er]) ∧ Below w.heap.size w w'
set_option maxRecDepth 100000 in
set_option maxHeartbeats 2000000 in
theorem span_all (a : Option Addr) (n c : Nat) (t : List Int) (k : Nat) (fk fa : Int) (cm : C5) (w : World) (hT : Ints w a t) (hn : t.length = n) (hn2 : n ≤ 200) (hc : n ≤ c) (hc2 : c ≤ 9223372036854775807) (hk : k < n ∨ k = 0) (he : cm.d = cm.c) :
  Calls Try.prog 184 #[.agg #[.slice a n c, .int .i64 (k : Int)], .agg #[.int .i64 fk, .int .i64 fa], .agg #[.int .i64 cm.a, .int .i64 cm.b, .int .i64 cm.c, .int .i64 cm.d, .int .i64 cm.e]] w (SpPost 0 (n : Int) 0 w) := by
 obtain ⟨hL, hF, hC, hb, hsz⟩ := threeC w #[.slice a n c, .int .i64 (k : Int)] #[.int .i64 fk, .int .i64 fa] #[.int .i64 cm.a, .int .i64 cm.b, .int .i64 cm.c, .int .i64 cm.d, .int .i64 cm.e] 131 135 80
 have x1 : (cm.d == cm.c) = true := by simpa using he
 have HE := Lib.hid he
 clear he
 go_enter Try.func184, Try.ntmps184
 go_upto_region 1 with fail
 generalize (((w.alloc (.cells #[.slice a n c, .int .i64 (k : Int)] 131)).alloc (.cells #[.int .i64 fk, .int .i64 fa] 135)).alloc (.cells #[.int .i64 cm.a, .int .i64 cm.b, .int .i64 cm.c, .int .i64 cm.d, .int .i64 cm.e] 80)) = w1 at *
 obtain ⟨l0, l1, -, -⟩ := hL.two
 obtain ⟨p0, p1, -, -⟩ := hF.two
 obtain ⟨c0, c1, c2, c3, c4⟩ := hC.five
 have hT1 := hT.below hb
 go_upto_region 2 with fail
 go_region
 all_goals
  go_wp2
  go_ret3
  exact ⟨rfl, hb.drew⟩
set_option maxRecDepth 100000 in
set_option maxHeartbeats 2000000 in
theorem span_obj_true (a : Option Addr) (n c : Nat) (t : List Int) (k : Nat) (fk fa : Int) (cm : C5) (w : World) (hT : Ints w a t) (hn : t.length = n) (hn2 : n ≤ 200) (hc : n ≤ c) (hc2 : c ≤ 9223372036854775807) (hk : k < n ∨ k = 0) (hd : cm.d = 97) (he : cm.d ≠ cm.c) :
  Calls Try.prog 184 #[.agg #[.slice a n c, .int .i64 (k : Int)], .agg #[.int .i64 fk, .int .i64 fa], .agg #[.int .i64 cm.a, .int .i64 cm.b, .int .i64 cm.c, .int .i64 cm.d, .int .i64 cm.e]] w (SpPost (ofR t n true k cm.e).1 (ofR t n true k cm.e).2.1 (ofR t n true k cm.e).2.2 w) := by
 obtain ⟨hL, hF, hC, hb, hsz⟩ := threeC w #[.slice a n c, .int .i64 (k : Int)] #[.int .i64 fk, .int .i64 fa] #[.int .i64 cm.a, .int .i64 cm.b, .int .i64 cm.c, .int .i64 cm.d, .int .i64 cm.e] 131 135 80
 have x1 : (cm.d == cm.c) = false := by simpa using he
 have hin : iaB cm.d = true := by rw [hd]; rfl
 have x2 : (cm.d == 97) = true := by rw [hd]; rfl
 have HE := Lib.hid he
 have HD := Lib.hid hd
 clear he hd
 go_enter Try.func184, Try.ntmps184
 go_upto_region 1 with fail
 generalize (((w.alloc (.cells #[.slice a n c, .int .i64 (k : Int)] 131)).alloc (.cells #[.int .i64 fk, .int .i64 fa] 135)).alloc (.cells #[.int .i64 cm.a, .int .i64 cm.b, .int .i64 cm.c, .int .i64 cm.d, .int .i64 cm.e] 80)) = w1 at *
 obtain ⟨l0, l1, -, -⟩ := hL.two
 obtain ⟨p0, p1, -, -⟩ := hF.two
 obtain ⟨c0, c1, c2, c3, c4⟩ := hC.five
 have hT1 := hT.below hb
 go_wp2_with (first | (go_at_call 121; go_loud (refine (ref_in cm.d ⟨#[105, 97]⟩ (by decide) _).mono ?_; rintro e w2 ⟨rfl, hb2⟩; rw [in_ia, hin]; have hL2 := hL.below hb2 hL.lt; have hF2 := hF.below hb2 hF.lt; have hC2 := hC.below hb2 hC.lt; clear l0 l1 p0 p1 c0 c1 c2 c3 c4; obtain ⟨l0, l1, -, -⟩ := Blk.two hL2; obtain ⟨p0, p1, -, -⟩ := Blk.two hF2; obtain ⟨c0, c1, c2, c3, c4⟩ := Blk.five hC2; have hT2 := hT1.below hb2; have hbel2 := below_then hb (by omega) hb2)) | (go_at_call 234; go_loud (refine (ref_object_in a n c t k true cm.e _ hT2 hn (by omega) hc hc2 (by omega)).mono ?_; rintro e w3 ⟨xa, xb, xe, rfl, hx, hb3⟩; have HXX := Lib.hid hx; clear hx)))
 go_ret3
 rw [ofR_eq HXX.out]
 exact ⟨rfl, below_then hbel2 (by have := hb2.size; omega) hb3⟩
set_option maxRecDepth 100000 in
set_option maxHeartbeats 2000000 in
theorem span_obj_false (a : Option Addr) (n c : Nat) (t : List Int) (k : Nat) (fk fa : Int) (cm : C5) (w : World) (hT : Ints w a t) (hn : t.length = n) (hn2 : n ≤ 200) (hc : n ≤ c) (hc2 : c ≤ 9223372036854775807) (hk : k < n ∨ k = 0) (hd : cm.d = 105) (he : cm.d ≠ cm.c) :
  Calls Try.prog 184 #[.agg #[.slice a n c, .int .i64 (k : Int)], .agg #[.int .i64 fk, .int .i64 fa], .agg #[.int .i64 cm.a, .int .i64 cm.b, .int .i64 cm.c, .int .i64 cm.d, .int .i64 cm.e]] w (SpPost (ofR t n false k cm.e).1 (ofR t n false k cm.e).2.1 (ofR t n false k cm.e).2.2 w) := by
 obtain ⟨hL, hF, hC, hb, hsz⟩ := threeC w #[.slice a n c, .int .i64 (k : Int)] #[.int .i64 fk, .int .i64 fa] #[.int .i64 cm.a, .int .i64 cm.b, .int .i64 cm.c, .int .i64 cm.d, .int .i64 cm.e] 131 135 80
 have x1 : (cm.d == cm.c) = false := by simpa using he
 have hin : iaB cm.d = true := by rw [hd]; rfl
 have x2 : (cm.d == 97) = false := by rw [hd]; rfl
 have HE := Lib.hid he
 have HD := Lib.hid hd
 clear he hd
 go_enter Try.func184, Try.ntmps184
 go_upto_region 1 with fail
 generalize (((w.alloc (.cells #[.slice a n c, .int .i64 (k : Int)] 131)).alloc (.cells #[.int .i64 fk, .int .i64 fa] 135)).alloc (.cells #[.int .i64 cm.a, .int .i64 cm.b, .int .i64 cm.c, .int .i64 cm.d, .int .i64 cm.e] 80)) = w1 at *
 obtain ⟨l0, l1, -, -⟩ := hL.two
 obtain ⟨p0, p1, -, -⟩ := hF.two
 obtain ⟨c0, c1, c2, c3, c4⟩ := hC.five
 have hT1 := hT.below hb
 go_wp2_with (first | (go_at_call 121; go_loud (refine (ref_in cm.d ⟨#[105, 97]⟩ (by decide) _).mono ?_; rintro e w2 ⟨rfl, hb2⟩; rw [in_ia, hin]; have hL2 := hL.below hb2 hL.lt; have hF2 := hF.below hb2 hF.lt; have hC2 := hC.below hb2 hC.lt; clear l0 l1 p0 p1 c0 c1 c2 c3 c4; obtain ⟨l0, l1, -, -⟩ := Blk.two hL2; obtain ⟨p0, p1, -, -⟩ := Blk.two hF2; obtain ⟨c0, c1, c2, c3, c4⟩ := Blk.five hC2; have hT2 := hT1.below hb2; have hbel2 := below_then hb (by omega) hb2)) | (go_at_call 234; go_loud (refine (ref_object_in a n c t k false cm.e _ hT2 hn (by omega) hc hc2 (by omega)).mono ?_; rintro e w3 ⟨xa, xb, xe, rfl, hx, hb3⟩; have HXX := Lib.hid hx; clear hx)))
 go_ret3
 rw [ofR_eq HXX.out]
 exact ⟨rfl, below_then hbel2 (by have := hb2.size; omega) hb3⟩
set_option maxRecDepth 100000 in
set_option maxHeartbeats 2000000 in
theorem span_none (a : Option Addr) (n c : Nat) (t : List Int) (k : Nat) (fk fa : Int) (cm : C5) (w : World) (hT : Ints w a t) (hn : t.length = n) (hn2 : n ≤ 200) (hc : n ≤ c) (hc2 : c ≤ 9223372036854775807) (hk : k < n ∨ k = 0) (hi : cm.d ≠ 105 ∧ cm.d ≠ 97) (he : cm.d ≠ cm.c) (E : Int) (hE : mtE fk cm.d = E) (h0 : E ≠ 0) :
  Calls Try.prog 184 #[.agg #[.slice a n c, .int .i64 (k : Int)], .agg #[.int .i64 fk, .int .i64 fa], .agg #[.int .i64 cm.a, .int .i64 cm.b, .int .i64 cm.c, .int .i64 cm.d, .int .i64 cm.e]] w (SpPost 0 0 E w) := by
 obtain ⟨hL, hF, hC, hb, hsz⟩ := threeC w #[.slice a n c, .int .i64 (k : Int)] #[.int .i64 fk, .int .i64 fa] #[.int .i64 cm.a, .int .i64 cm.b, .int .i64 cm.c, .int .i64 cm.d, .int .i64 cm.e] 131 135 80
 have x1 : (cm.d == cm.c) = false := by simpa using he
 have hin : iaB cm.d = false := by simp [iaB]; omega
 have CM := fun w => ref_meant fk fa cm w
 rw [hE] at CM
 unfold C5.v at CM
 have n0 : (E != 0) = true := by simpa using h0
 have HCM := Lib.hid CM
 clear he hi hE h0 CM
 go_enter Try.func184, Try.ntmps184
 go_upto_region 1 with fail
 generalize (((w.alloc (.cells #[.slice a n c, .int .i64 (k : Int)] 131)).alloc (.cells #[.int .i64 fk, .int .i64 fa] 135)).alloc (.cells #[.int .i64 cm.a, .int .i64 cm.b, .int .i64 cm.c, .int .i64 cm.d, .int .i64 cm.e] 80)) = w1 at *
 obtain ⟨l0, l1, -, -⟩ := hL.two
 obtain ⟨p0, p1, -, -⟩ := hF.two
 obtain ⟨c0, c1, c2, c3, c4⟩ := hC.five
 have hT1 := hT.below hb
 go_wp2_with (first | (go_at_call 121; go_loud (refine (ref_in cm.d ⟨#[105, 97]⟩ (by decide) _).mono ?_; rintro e w2 ⟨rfl, hb2⟩; rw [in_ia, hin]; have hL2 := hL.below hb2 hL.lt; have hF2 := hF.below hb2 hF.lt; have hC2 := hC.below hb2 hC.lt; clear l0 l1 p0 p1 c0 c1 c2 c3 c4; obtain ⟨l0, l1, -, -⟩ := Blk.two hL2; obtain ⟨p0, p1, -, -⟩ := Blk.two hF2; obtain ⟨c0, c1, c2, c3, c4⟩ := Blk.five hC2; have hT2 := hT1.below hb2; have hbel2 := below_then hb (by omega) hb2)) | (go_at_call 145; go_loud (refine (HCM.out _).mono ?_; rintro e w3 ⟨rfl, hb3⟩)))
 go_ret3
 refine ⟨rfl, ?_⟩
 have hbel3 := below_then hbel2 (by have := hb2.size; omega) hb3
 have hz3 : w.heap.size ≤ w3.heap.size := hbel3.size
 repeat (first | assumption | refine Below.alloc ?_ (by first | assumption | (simp only [World.size_alloc, World.size_setCell]; omega)) _ | refine Below.setCell ?_ (by first | assumption | (show w.heap.size ≤ _; simp only [World.size_alloc, World.size_setCell]; omega)) _)
set_option maxRecDepth 100000 in
set_option maxHeartbeats 2000000 in
theorem span_mv (a : Option Addr) (n c : Nat) (t : List Int) (k : Nat) (fk fa : Int) (cm : C5) (w : World) (hT : Ints w a t) (hn : t.length = n) (hn2 : n ≤ 200) (hc : n ≤ c) (hc2 : c ≤ 9223372036854775807) (hk : k < n ∨ k = 0) (hi : cm.d ≠ 105 ∧ cm.d ≠ 97) (he : cm.d ≠ cm.c) (hE : mtE fk cm.d = 0) (hm : moveE t k (mtK fk cm.d) cm.a = 0) (h0 : goE t k (mtK fk cm.d) cm.a (mtA fk fa cm.d cm.e) true = 0) :
  Calls Try.prog 184 #[.agg #[.slice a n c, .int .i64 (k : Int)], .agg #[.int .i64 fk, .int .i64 fa], .agg #[.int .i64 cm.a, .int .i64 cm.b, .int .i64 cm.c, .int .i64 cm.d, .int .i64 cm.e]] w (SpPost (raF t k (mtK fk cm.d) cm.a (mtA fk fa cm.d cm.e)) (raT t k (mtK fk cm.d) cm.a (mtA fk fa cm.d cm.e)) 0 w) := by
 obtain ⟨hL, hF, hC, hb, hsz⟩ := threeC w #[.slice a n c, .int .i64 (k : Int)] #[.int .i64 fk, .int .i64 fa] #[.int .i64 cm.a, .int .i64 cm.b, .int .i64 cm.c, .int .i64 cm.d, .int .i64 cm.e] 131 135 80
 have x1 : (cm.d == cm.c) = false := by simpa using he
 have hin : iaB cm.d = false := by simp [iaB]; omega
 have CM := fun w => ref_meant fk fa cm w
 rw [hE] at CM
 unfold C5.v at CM
 have HCM := Lib.hid CM
 obtain ⟨mk, hmk⟩ : ∃ mk, mtK fk cm.d = mk := ⟨_, rfl⟩
 obtain ⟨mg, hmg⟩ : ∃ mg, mtA fk fa cm.d cm.e = mg := ⟨_, rfl⟩
 rw [hmk, hmg] at HCM
 rw [hmk] at hm
 have CR := fun w hl => ref_range a n c t k mk cm.a mg w hl hn hm
 unfold mvV at CR
 rw [hmk, hmg] at h0 ⊢
 rw [h0] at CR
 obtain ⟨F, hF1⟩ : ∃ F, raF t k mk cm.a mg = F := ⟨_, rfl⟩
 obtain ⟨G, hG1⟩ : ∃ G, raT t k mk cm.a mg = G := ⟨_, rfl⟩
 rw [hF1, hG1] at CR ⊢
 have hdc : decide ((0 : Int) = 0) = true := rfl
 rw [hdc] at CR
 have HM1 := Lib.hid hF1; have HM2 := Lib.hid hG1
 have HCR := Lib.hid CR
 clear he hi hE CM CR hmk hmg hm h0 hF1 hG1
 go_enter Try.func184, Try.ntmps184
 go_upto_region 1 with fail
 generalize (((w.alloc (.cells #[.slice a n c, .int .i64 (k : Int)] 131)).alloc (.cells #[.int .i64 fk, .int .i64 fa] 135)).alloc (.cells #[.int .i64 cm.a, .int .i64 cm.b, .int .i64 cm.c, .int .i64 cm.d, .int .i64 cm.e] 80)) = w1 at *
 obtain ⟨l0, l1, -, -⟩ := hL.two
 obtain ⟨p0, p1, -, -⟩ := hF.two
 obtain ⟨c0, c1, c2, c3, c4⟩ := hC.five
 have hT1 := hT.below hb
 go_wp2_with (first | (go_at_call 121; go_loud (refine (ref_in cm.d ⟨#[105, 97]⟩ (by decide) _).mono ?_; rintro e w2 ⟨rfl, hb2⟩; rw [in_ia, hin]; have hL2 := hL.below hb2 hL.lt; have hF2 := hF.below hb2 hF.lt; have hC2 := hC.below hb2 hC.lt; clear l0 l1 p0 p1 c0 c1 c2 c3 c4; obtain ⟨l0, l1, -, -⟩ := Blk.two hL2; obtain ⟨p0, p1, -, -⟩ := Blk.two hF2; obtain ⟨c0, c1, c2, c3, c4⟩ := Blk.five hC2; have hT2 := hT1.below hb2; have hbel2 := below_then hb (by omega) hb2)) | (go_at_call 145; go_loud (refine (HCM.out _).mono ?_; rintro e w3 ⟨rfl, hb3⟩; have hL3 := hL2.below hb3 hL2.lt; obtain ⟨g0, g1, -, -⟩ := Blk.two hL3; have hT3 := hT2.below hb3; have hbel3 := below_then hbel2 (by have := hb2.size; omega) hb3; have hz3 : w.heap.size ≤ w3.heap.size := hbel3.size; have hlt3 := hL3.lt; have hT4 := hT3.below (below1 w3 (.cells #[.int .i64 mk, .int .i64 cm.a, .int .i64 mg] 227)); have hbel4 := hbel3.alloc hz3 (.cells #[.int .i64 mk, .int .i64 cm.a, .int .i64 mg] 227))) | (go_at_call 235; go_loud (refine (HCR.out _ hT4).mono ?_; rintro e w4 ⟨rfl, hb4⟩))) 
 go_ret3
 refine ⟨by first | rfl | (rw [HM1.out, HM2.out]), below_then hbel4 (by simp only [World.size_alloc]; omega) hb4⟩
set_option maxRecDepth 100000 in
set_option maxHeartbeats 2000000 in
theorem span_bad (a : Option Addr) (n c : Nat) (t : List Int) (k : Nat) (fk fa : Int) (cm : C5) (w : World) (hT : Ints w a t) (hn : t.length = n) (hn2 : n ≤ 200) (hc : n ≤ c) (hc2 : c ≤ 9223372036854775807) (hk : k < n ∨ k = 0) (hi : cm.d ≠ 105 ∧ cm.d ≠ 97) (he : cm.d ≠ cm.c) (hE : mtE fk cm.d = 0) (hm : moveE t k (mtK fk cm.d) cm.a = 0) (h0 : goE t k (mtK fk cm.d) cm.a (mtA fk fa cm.d cm.e) true ≠ 0) :
  Calls Try.prog 184 #[.agg #[.slice a n c, .int .i64 (k : Int)], .agg #[.int .i64 fk, .int .i64 fa], .agg #[.int .i64 cm.a, .int .i64 cm.b, .int .i64 cm.c, .int .i64 cm.d, .int .i64 cm.e]] w (SpPost 0 0 5 w) := by
 obtain ⟨hL, hF, hC, hb, hsz⟩ := threeC w #[.slice a n c, .int .i64 (k : Int)] #[.int .i64 fk, .int .i64 fa] #[.int .i64 cm.a, .int .i64 cm.b, .int .i64 cm.c, .int .i64 cm.d, .int .i64 cm.e] 131 135 80
 have x1 : (cm.d == cm.c) = false := by simpa using he
 have hin : iaB cm.d = false := by simp [iaB]; omega
 have CM := fun w => ref_meant fk fa cm w
 rw [hE] at CM
 unfold C5.v at CM
 have HCM := Lib.hid CM
 obtain ⟨mk, hmk⟩ : ∃ mk, mtK fk cm.d = mk := ⟨_, rfl⟩
 obtain ⟨mg, hmg⟩ : ∃ mg, mtA fk fa cm.d cm.e = mg := ⟨_, rfl⟩
 rw [hmk, hmg] at HCM
 rw [hmk] at hm
 have CR := fun w hl => ref_range a n c t k mk cm.a mg w hl hn hm
 unfold mvV at CR
 rw [hmk, hmg] at h0
 have hdc : decide (goE t k mk cm.a mg true = 0) = false := by simpa using h0
 rw [hdc] at CR
 have HCR := Lib.hid CR
 clear he hi hE CM CR hmk hmg hm h0
 go_enter Try.func184, Try.ntmps184
 go_upto_region 1 with fail
 generalize (((w.alloc (.cells #[.slice a n c, .int .i64 (k : Int)] 131)).alloc (.cells #[.int .i64 fk, .int .i64 fa] 135)).alloc (.cells #[.int .i64 cm.a, .int .i64 cm.b, .int .i64 cm.c, .int .i64 cm.d, .int .i64 cm.e] 80)) = w1 at *
 obtain ⟨l0, l1, -, -⟩ := hL.two
 obtain ⟨p0, p1, -, -⟩ := hF.two
 obtain ⟨c0, c1, c2, c3, c4⟩ := hC.five
 have hT1 := hT.below hb
 go_wp2_with (first | (go_at_call 121; go_loud (refine (ref_in cm.d ⟨#[105, 97]⟩ (by decide) _).mono ?_; rintro e w2 ⟨rfl, hb2⟩; rw [in_ia, hin]; have hL2 := hL.below hb2 hL.lt; have hF2 := hF.below hb2 hF.lt; have hC2 := hC.below hb2 hC.lt; clear l0 l1 p0 p1 c0 c1 c2 c3 c4; obtain ⟨l0, l1, -, -⟩ := Blk.two hL2; obtain ⟨p0, p1, -, -⟩ := Blk.two hF2; obtain ⟨c0, c1, c2, c3, c4⟩ := Blk.five hC2; have hT2 := hT1.below hb2; have hbel2 := below_then hb (by omega) hb2)) | (go_at_call 145; go_loud (refine (HCM.out _).mono ?_; rintro e w3 ⟨rfl, hb3⟩; have hL3 := hL2.below hb3 hL2.lt; obtain ⟨g0, g1, -, -⟩ := Blk.two hL3; have hT3 := hT2.below hb3; have hbel3 := below_then hbel2 (by have := hb2.size; omega) hb3; have hz3 : w.heap.size ≤ w3.heap.size := hbel3.size; have hlt3 := hL3.lt; have hT4 := hT3.below (below1 w3 (.cells #[.int .i64 mk, .int .i64 cm.a, .int .i64 mg] 227)); have hbel4 := hbel3.alloc hz3 (.cells #[.int .i64 mk, .int .i64 cm.a, .int .i64 mg] 227))) | (go_at_call 235; go_loud (refine (HCR.out _ hT4).mono ?_; rintro e w4 ⟨rfl, hb4⟩))) 
 go_ret3
 refine ⟨by first | rfl | (rw [HM1.out, HM2.out]), below_then hbel4 (by simp only [World.size_alloc]; omega) hb4⟩
noncomputable def spR (t : List Int) (n k : Nat) (fk fa : Int) (cm : C5) : Int × Int × Int :=
 if cm.d = cm.c then (0, (n : Int), 0)
 else if cm.d = 105 ∨ cm.d = 97 then ofR t n (decide (cm.d = 97)) k cm.e
 else if mtE fk cm.d ≠ 0 then (0, 0, mtE fk cm.d)
 else if goE t k (mtK fk cm.d) cm.a (mtA fk fa cm.d cm.e) true ≠ 0 then (0, 0, 5)
 else (raF t k (mtK fk cm.d) cm.a (mtA fk fa cm.d cm.e), raT t k (mtK fk cm.d) cm.a (mtA fk fa cm.d cm.e), 0)
theorem ref_span (a : Option Addr) (n c : Nat) (t : List Int) (k : Nat) (fk fa : Int) (cm : C5) (w : World) (hT : Ints w a t) (hn : t.length = n) (hn2 : n ≤ 200) (hc : n ≤ c) (hc2 : c ≤ 9223372036854775807) (hk : k < n ∨ k = 0)
  (hm : cm.d ≠ cm.c → ¬ (cm.d = 105 ∨ cm.d = 97) → mtE fk cm.d = 0 → moveE t k (mtK fk cm.d) cm.a = 0) :
  Calls Try.prog 184 #[.agg #[.slice a n c, .int .i64 (k : Int)], .agg #[.int .i64 fk, .int .i64 fa], .agg #[.int .i64 cm.a, .int .i64 cm.b, .int .i64 cm.c, .int .i64 cm.d, .int .i64 cm.e]] w (SpPost (spR t n k fk fa cm).1 (spR t n k fk fa cm).2.1 (spR t n k fk fa cm).2.2 w) := by
 by_cases he : cm.d = cm.c
 ·rw [spR, if_pos he]; exact span_all a n c t k fk fa cm w hT hn hn2 hc hc2 hk he
 by_cases hi : cm.d = 105 ∨ cm.d = 97
 ·rw [spR, if_neg he, if_pos hi]
  by_cases h97 : cm.d = 97
  ·rw [show decide (cm.d = 97) = true by simpa using h97]; exact span_obj_true a n c t k fk fa cm w hT hn hn2 hc hc2 hk h97 he
  ·rw [show decide (cm.d = 97) = false by simpa using h97]; exact span_obj_false a n c t k fk fa cm w hT hn hn2 hc hc2 hk (by omega) he
 have hi2 : cm.d ≠ 105 ∧ cm.d ≠ 97 := by omega
 by_cases hE : mtE fk cm.d = 0
 ·have hm' := hm he hi hE
  by_cases h0 : goE t k (mtK fk cm.d) cm.a (mtA fk fa cm.d cm.e) true = 0
  ·rw [spR, if_neg he, if_neg hi, if_neg (by simpa using hE), if_neg (by simpa using h0)]
   exact span_mv a n c t k fk fa cm w hT hn hn2 hc hc2 hk hi2 he hE hm' h0
  ·rw [spR, if_neg he, if_neg hi, if_neg (by simpa using hE), if_pos h0]
   exact span_bad a n c t k fk fa cm w hT hn hn2 hc hc2 hk hi2 he hE hm' h0
 ·rw [spR, if_neg he, if_neg hi, if_pos hE]
  exact span_none a n c t k fk fa cm w hT hn hn2 hc hc2 hk hi2 he _ rfl hE
theorem in_mot (d : Int) : inB d ⟨#[104, 108, 48, 94, 36, 124, 119, 87, 98, 66, 101, 69, 37, 102, 70, 116, 84, 59, 44]⟩ = motB d := by
 rw [Bool.eq_iff_iff, inB_mem]
 simp [motB]
theorem ref_isMotion (d : Int) (w : World) : Calls Try.prog 144 #[.int .i64 d] w fun e w' => e = .returned (.bool (motB d)) ∧ Below w.heap.size w w' := by
 go_enter Try.func144, Try.ntmps144
 go_wp2_with (go_at_call 121; go_loud (refine (ref_in d ⟨#[104, 108, 48, 94, 36, 124, 119, 87, 98, 66, 101, 69, 37, 102, 70, 116, 84, 59, 44]⟩ (by decide) _).mono ?_; rintro e w2 ⟨rfl, hb2⟩; rw [in_mot]))
 go_ret
 exact ⟨rfl, hb2⟩
theorem ref_isFind (d : Int) (w : World) : Calls Try.prog 141 #[.int .i64 d] w fun e w' => e = .returned (.bool (fiB d)) ∧ Below w.heap.size w w' := by
 by_cases h102 : d = 102
 ·subst h102
  go_enter Try.func141, Try.ntmps141
  go_wp2
  go_ret
  exact ⟨rfl, Below.refl _ _⟩
 by_cases h70 : d = 70
 ·subst h70
  go_enter Try.func141, Try.ntmps141
  go_wp2
  go_ret
  exact ⟨rfl, Below.refl _ _⟩
 by_cases h116 : d = 116
 ·subst h116
  go_enter Try.func141, Try.ntmps141
  go_wp2
  go_ret
  exact ⟨rfl, Below.refl _ _⟩
 by_cases h84 : d = 84
 ·subst h84
  go_enter Try.func141, Try.ntmps141
  go_wp2
  go_ret
  exact ⟨rfl, Below.refl _ _⟩
 have hf : fiB d = false := by simp [fiB]; omega
 rw [hf]
 have x102 : (d == 102) = false := by simpa using h102
 have x70 : (d == 70) = false := by simpa using h70
 have x116 : (d == 116) = false := by simpa using h116
 have x84 : (d == 84) = false := by simpa using h84
 clear h102 h70 h116 h84 hf
 go_enter Try.func141, Try.ntmps141
 go_wp2
 go_ret
 exact ⟨rfl, Below.refl _ _⟩
theorem meant_known {fk d : Int} (hd : motB d = true) (hf : fk = 0 ∨ fiB fk = true) (hE : mtE fk d = 0) : knownS (mtK fk d) = true := by
 have hds : d = 104 ∨ d = 108 ∨ d = 48 ∨ d = 94 ∨ d = 36 ∨ d = 124 ∨ d = 119 ∨ d = 87 ∨ d = 98 ∨ d = 66 ∨ d = 101 ∨ d = 69 ∨ d = 37 ∨ d = 102 ∨ d = 70 ∨ d = 116 ∨ d = 84 ∨ d = 59 ∨ d = 44 := by simpa [motB] using hd
 have hfs : fk = 0 ∨ fk = 102 ∨ fk = 70 ∨ fk = 116 ∨ fk = 84 := by simpa [fiB] using hf
 clear hd hf
 rcases hds with rfl | rfl | rfl | rfl | rfl | rfl | rfl | rfl | rfl | rfl | rfl | rfl | rfl | rfl | rfl | rfl | rfl | rfl | rfl <;> rcases hfs with rfl | rfl | rfl | rfl | rfl <;> first | rfl | (exact absurd hE (by decide))
theorem meant_moveE {t : List Int} {k : Nat} {fk d cnt : Int} (hd : motB d = true) (hf : fk = 0 ∨ fiB fk = true) (hE : mtE fk d = 0) (hn : t.length ≤ 200) (hk : k < t.length ∨ k = 0) (h0 : 0 ≤ cnt) (h1 : cnt ≤ 999) : moveE t k (mtK fk d) cnt = 0 := by
 have h := meant_known hd hf hE
 unfold moveE
 rw [if_neg (by omega), if_neg (by omega), if_pos h]
theorem goE_five {l : List Int} {k key count arg : Int} {op : Bool} (hE : moveE l k key count = 0) (h : goE l k key count arg op ≠ 0) : goE l k key count arg op = 5 := by
 rw [goE, if_pos hE] at *
 rcases hm : moS l k.toNat key (max 1 count) arg op with _ | ⟨x, b⟩
 ·rfl
 ·rw [hm] at h; exact absurd rfl h
def resL (t : Value) (k : Int) (vs : List Value) (fk fa : Int) : List Value := [t, .int .i64 k] ++ vs ++ [.int .i64 fk, .int .i64 fa, .int .i64 0, .slice none 0 0]
theorem resL_len {t : Value} {k : Int} {vs : List Value} {fk fa : Int} (h : vs.length = 27) : (resL t k vs fk fa).length = 33 := by simp [resL, h]
theorem build_resL' (a : Option Addr) (n c : Nat) (k fk fa : Int) (v0 v1 v2 v3 v4 v5 v6 v7 v8 v9 v10 v11 v12 v13 v14 v15 v16 v17 v18 v19 v20 v21 v22 v23 v24 v25 v26 : Value) (w : World) :
  (Instr.build 138 #[(0, .agg #[.slice a n c, .int .i64 k]), (1, .agg #[v0, v1, v2, v3, v4, v5, v6, v7, v8, v9, v10, v11, v12, v13, v14, v15, v16, v17, v18, v19, v20, v21, v22, v23, v24, v25, v26]), (2, .agg #[.int .i64 fk, .int .i64 fa])]).run Try.prog w = .ok (.agg (rgA (resL (.slice a n c) k [v0, v1, v2, v3, v4, v5, v6, v7, v8, v9, v10, v11, v12, v13, v14, v15, v16, v17, v18, v19, v20, v21, v22, v23, v24, v25, v26] fk fa))) w := by kernel_rfl
theorem build_resL (a : Option Addr) (n c : Nat) (k fk fa : Int) (vs : List Value) (h : vs.length = 27) (w : World) :
  (Instr.build 138 #[(0, .agg #[.slice a n c, .int .i64 k]), (1, .agg (rgA vs)), (2, .agg #[.int .i64 fk, .int .i64 fa])]).run Try.prog w = .ok (.agg (rgA (resL (.slice a n c) k vs fk fa))) w := by
 obtain ⟨v0, v1, v2, v3, v4, v5, v6, v7, v8, v9, v10, v11, v12, v13, v14, v15, v16, v17, v18, v19, v20, v21, v22, v23, v24, v25, v26, rfl⟩ := list27 h
 exact build_resL' a n c k fk fa _ _ _ _ _ _ _ _ _ _ _ _ _ _ _ _ _ _ _ _ _ _ _ _ _ _ _  w
theorem resL_build {ops : Array Oper} {rest : List Oper} {o : Oper} {a : Act} {w : World} {Q : Exit → Act → World → Prop} (hg : o.guard = none) (x y z : Operand) (ho : o.op = .build 138 #[(0, x), (1, y), (2, z)])
  (ad : Option Addr) (n c : Nat) (k fk fa : Int) (vs : List Value) (hx : a.eval x = .agg #[.slice ad n c, .int .i64 k]) (hy : a.eval y = .agg (rgA vs)) (hz : a.eval z = .agg #[.int .i64 fk, .int .i64 fa]) (hl : vs.length = 27)
  (h : wpList Try.prog ops Q rest (a.put o.dst (.agg (rgA (resL (.slice ad n c) k vs fk fa)))) w) : wpList Try.prog ops Q (o :: rest) a w := by
 refine wpList_plain hg fun _ hK => ?_
 have hm : (#[(0, x), (1, y), (2, z)] : Array (Nat × Operand)).map (fun (i, x) => (i, a.eval x)) = #[(0, .agg #[.slice ad n c, .int .i64 k]), (1, .agg (rgA vs)), (2, .agg #[.int .i64 fk, .int .i64 fa])] := by
  simp [hx, hy, hz]
 unfold Oper.wp execOp
 simp only [ho, hm, Sem.run_bind, build_resL ad n c k fk fa vs hl w, Result.andThen_ok]
 exact hK _ _ h
def InV (I : In) (v : Value) (xs : List Int) : Prop := (v = .slice I.a I.n I.c ∧ xs = I.t) ∨ (∃ i, i < 27 ∧ v = vx I.vs i ∧ xs = rx I.X i) ∨ ∃ f g, f ≤ g ∧ g ≤ I.n ∧ v = .slice (cutA I.a I.c f) (g - f) (I.c - f) ∧ xs = (I.t.take g).drop f
theorem InV.sl {I : In} (hI : InOk I) {v : Value} {xs : List Int} (h : InV I v xs) : Sl I.w0 v xs := by
 rcases h with ⟨rfl, rfl⟩ | ⟨i, hi, rfl, rfl⟩ | ⟨f, g, h1, h2, rfl, rfl⟩
 ·exact ⟨I.a, I.n, I.c, rfl, hI.len, hI.cap, hI.cap2, hI.ints, hI.none⟩
 ·exact hI.rgs.sl i hi
 ·have := hI.cap; have := hI.cap2; have := hI.len
  refine ⟨_, _, _, rfl, by rw [List.length_drop, List.length_take]; omega, by omega, by omega, hI.ints.cutTo (c := I.c) f g (by omega) h1 (by omega), fun hz => ?_⟩
  have := hI.none (cutA_none hz); omega
def SlQ (I : In) (base : Nat) (w : World) (v : Value) (xs : List Int) : Prop := InV I v xs ∨ Own 3 base w v xs
theorem SlQ.setCell {I : In} {base : Nat} {w : World} {v : Value} {xs : List Int} (h : SlQ I base w v xs) {a : Addr} (ha : a.block < base) (u : Value) : SlQ I base (w.setCell a u) v xs := h.imp id fun h => h.setCell ha u
theorem SlQ.kept {I : In} {base : Nat} {w w' : World} {v : Value} {xs : List Int} (h : SlQ I base w v xs) (hb : Below w.heap.size w w') : SlQ I base w' v xs := h.imp id fun h => h.kept hb
theorem SlQ.left {I : In} {base B : Nat} {w w' : World} {v : Value} {xs : List Int} (h : SlQ I base w v xs) (hL : Left B w w') (hb : B < base) : SlQ I base w' v xs := h.imp id fun h => h.left hL hb
theorem SlQ.mono {I : In} {base base' : Nat} {w : World} {v : Value} {xs : List Int} (h : SlQ I base w v xs) (hb : base' ≤ base) : SlQ I base' w v xs := h.imp id fun h => h.mono hb
theorem SlQ.sl {I : In} (hI : InOk I) {base : Nat} {w : World} {v : Value} {xs : List Int} (h : SlQ I base w v xs) (hb : Below I.w0.heap.size I.w0 w) : Sl w v xs := by
 rcases h with h | h
 ·exact (h.sl hI).keep (below_keeps hb)
 ·exact h.sl
theorem SlQ.one {I : In} (hI : InOk I) {base : Nat} {w : World} {v : Value} {xs : List Int} (h : SlQ I base w v xs) : v.oneCell' = true := by
 rcases h with h | h
 ·obtain ⟨a, n, c, rfl, -⟩ := h.sl hI; rfl
 ·obtain ⟨a, n, c, rfl⟩ := h.form; rfl
structure RsQ (I : In) (base : Nat) (w : World) (rs : List Value) (s : St) : Prop where
 lr : rs.length = 33
 o : SlQ I base w (vx rs 0) s.O
 p : vx rs 1 = .int .i64 s.p
 ly : s.Y.length = 27
 y : ∀ i, i < 27 → SlQ I base w (vx rs (2 + i)) (rx s.Y i)
 f1 : vx rs 29 = .int .i64 s.fk
 f2 : vx rs 30 = .int .i64 s.fa
 m : vx rs 31 = .int .i64 s.md
 e : ∃ ws, SOwn base w (vx rs 32) ws s.es
theorem RsQ.kept {I : In} {base : Nat} {w w' : World} {rs : List Value} {s : St} (h : RsQ I base w rs s) (hb : Below w.heap.size w w') : RsQ I base w' rs s :=
 ⟨h.lr, h.o.kept hb, h.p, h.ly, fun i hi => (h.y i hi).kept hb, h.f1, h.f2, h.m, by obtain ⟨ws, hw⟩ := h.e; exact ⟨ws, hw.kept hb⟩⟩
theorem RsQ.left {I : In} {base B : Nat} {w w' : World} {rs : List Value} {s : St} (h : RsQ I base w rs s) (hL : Left B w w') (hb : B < base) : RsQ I base w' rs s :=
 ⟨h.lr, h.o.left hL hb, h.p, h.ly, fun i hi => (h.y i hi).left hL hb, h.f1, h.f2, h.m, by obtain ⟨ws, hw⟩ := h.e; exact ⟨ws, hw.left hL hb⟩⟩
theorem RsQ.mono {I : In} {base base' : Nat} {w : World} {rs : List Value} {s : St} (h : RsQ I base w rs s) (hb : base' ≤ base) : RsQ I base' w rs s :=
 ⟨h.lr, h.o.mono hb, h.p, h.ly, fun i hi => (h.y i hi).mono hb, h.f1, h.f2, h.m, by obtain ⟨ws, hw⟩ := h.e; exact ⟨ws, hw.mono hb⟩⟩
theorem RsQ.one {I : In} (hI : InOk I) {base : Nat} {w : World} {rs : List Value} {s : St} (h : RsQ I base w rs s) : ∀ v ∈ rs, v.oneCell' = true := by
 intro v hv
 obtain ⟨i, hi, rfl⟩ := vx_mem hv
 rw [h.lr] at hi
 by_cases h0 : i = 0
 ·subst h0; exact h.o.one hI
 by_cases h1 : i = 1
 ·subst h1; rw [h.p]; rfl
 by_cases h2 : i < 29
 ·have := (h.y (i - 2) (by omega)).one hI
  rwa [show 2 + (i - 2) = i from by omega] at this
 by_cases h3 : i = 29
 ·subst h3; rw [h.f1]; rfl
 by_cases h4 : i = 30
 ·subst h4; rw [h.f2]; rfl
 by_cases h5 : i = 31
 ·subst h5; rw [h.m]; rfl
 obtain rfl : i = 32 := by omega
 obtain ⟨ws, hw⟩ := h.e
 obtain ⟨a, c, e, -, -, -⟩ := hw.form; rw [e]; rfl
theorem RsI.rsQ {base : Nat} {w : World} {rs : List Value} {s : St} (h : RsI base w rs s) (I : In) : RsQ I base w rs s :=
 ⟨h.lr, .inr h.o, h.p, h.ly, fun i hi => .inr (h.y i hi), h.f1, h.f2, h.m, h.e⟩
abbrev SlB (I : In) (B : Nat) (w : World) (v : Value) (xs : List Int) : Prop := SlQ I (B + 1) w v xs
theorem SlB.set {I : In} {B : Nat} {w : World} {v : Value} {xs : List Int} (h : SlB I B w v xs) (i : Nat) (u : Value) : SlB I B (w.setCell ⟨B, i, none⟩ u) v xs := h.setCell (a := ⟨B, i, none⟩) (Nat.lt_succ_self B) u
theorem SlB.left {I : In} {B : Nat} {w w' : World} {v : Value} {xs : List Int} (h : SlB I B w v xs) (hL : Left B w w') : SlB I B w' v xs := SlQ.left h hL (Nat.lt_succ_self B)
structure RB (I : In) (B : Nat) (w : World) (us : List Value) (s : St) : Prop where
 lu : us.length = 33
 b : BlkR w B us 138
 bel : Below I.w0.heap.size I.w0 w
 ge : I.w0.heap.size ≤ B
 ly : s.Y.length = 27
 o : SlB I B w (vx us 0) s.O
 p : vx us 1 = .int .i64 s.p
 y : ∀ i, i < 27 → SlB I B w (vx us (2 + i)) (rx s.Y i)
 f1 : vx us 29 = .int .i64 s.fk
 f2 : vx us 30 = .int .i64 s.fa
 m : vx us 31 = .int .i64 s.md
 e : ∃ ws, SOwn (B + 1) w (vx us 32) ws s.es
theorem RB.to {I : In} {B : Nat} {w w' : World} {us : List Value} {s : St} (h : RB I B w us s) (hb : Below w.heap.size w w') : RB I B w' us s :=
 ⟨h.lu, h.b.below hb h.b.lt, below_then h.bel h.bel.size hb, h.ge, h.ly, h.o.kept hb, h.p, fun i hi => (h.y i hi).kept hb, h.f1, h.f2, h.m, by obtain ⟨ws, hw⟩ := h.e; exact ⟨ws, hw.kept hb⟩⟩
theorem RB.rsQ {I : In} {B : Nat} {w : World} {us : List Value} {s : St} (h : RB I B w us s) : RsQ I (B + 1) w us s :=
 ⟨h.lu, h.o, h.p, h.ly, h.y, h.f1, h.f2, h.m, h.e⟩
theorem RB.there {I : In} {B : Nat} {w : World} {us : List Value} {s : St} (h : RB I B w us s) {o n : Nat} (ho : o + n ≤ 33) : w.there B o n := by
 intro j hj
 exact ⟨by rw [h.b.cell (by rw [h.lu]; omega)]; rfl, h.b.free _⟩
theorem RB.setP {I : In} {B : Nat} {w : World} {us : List Value} {s : St} (h : RB I B w us s) (x : Int) : RB I B (w.setCell ⟨B, 1, none⟩ (.int .i64 x)) (us.set 1 (.int .i64 x)) { s with p := x } :=
  { lu := by simpa using h.lu, b := h.b.set 1 _, bel := h.bel.setCell (p := ⟨B, 1, none⟩) h.ge _, ge := h.ge, ly := h.ly, o := by rw [vx_set_ne (by omega)]; exact h.o.set 1 _, p := vx_set_eq (by rw [h.lu]; decide) _, y := fun i hi => by rw [vx_set_ne (by omega)]; exact (h.y i hi).set 1 _, f1 := by rw [vx_set_ne (by omega)]; exact h.f1, f2 := by rw [vx_set_ne (by omega)]; exact h.f2, m := by rw [vx_set_ne (by omega)]; exact h.m, e := by rw [vx_set_ne (by omega)]; obtain ⟨ws, hw⟩ := h.e; exact ⟨ws, hw.setCell (a := ⟨B, 1, none⟩) (Nat.lt_succ_self B) _⟩ }
theorem RB.setK {I : In} {B : Nat} {w : World} {us : List Value} {s : St} (h : RB I B w us s) (x : Int) : RB I B (w.setCell ⟨B, 29, none⟩ (.int .i64 x)) (us.set 29 (.int .i64 x)) { s with fk := x } :=
  { lu := by simpa using h.lu, b := h.b.set 29 _, bel := h.bel.setCell (p := ⟨B, 29, none⟩) h.ge _, ge := h.ge, ly := h.ly, o := by rw [vx_set_ne (by omega)]; exact h.o.set 29 _, p := by rw [vx_set_ne (by omega)]; exact h.p, y := fun i hi => by rw [vx_set_ne (by omega)]; exact (h.y i hi).set 29 _, f1 := vx_set_eq (by rw [h.lu]; decide) _, f2 := by rw [vx_set_ne (by omega)]; exact h.f2, m := by rw [vx_set_ne (by omega)]; exact h.m, e := by rw [vx_set_ne (by omega)]; obtain ⟨ws, hw⟩ := h.e; exact ⟨ws, hw.setCell (a := ⟨B, 29, none⟩) (Nat.lt_succ_self B) _⟩ }
theorem RB.setA {I : In} {B : Nat} {w : World} {us : List Value} {s : St} (h : RB I B w us s) (x : Int) : RB I B (w.setCell ⟨B, 30, none⟩ (.int .i64 x)) (us.set 30 (.int .i64 x)) { s with fa := x } :=
  { lu := by simpa using h.lu, b := h.b.set 30 _, bel := h.bel.setCell (p := ⟨B, 30, none⟩) h.ge _, ge := h.ge, ly := h.ly, o := by rw [vx_set_ne (by omega)]; exact h.o.set 30 _, p := by rw [vx_set_ne (by omega)]; exact h.p, y := fun i hi => by rw [vx_set_ne (by omega)]; exact (h.y i hi).set 30 _, f1 := by rw [vx_set_ne (by omega)]; exact h.f1, f2 := vx_set_eq (by rw [h.lu]; decide) _, m := by rw [vx_set_ne (by omega)]; exact h.m, e := by rw [vx_set_ne (by omega)]; obtain ⟨ws, hw⟩ := h.e; exact ⟨ws, hw.setCell (a := ⟨B, 30, none⟩) (Nat.lt_succ_self B) _⟩ }
theorem RB.setM {I : In} {B : Nat} {w : World} {us : List Value} {s : St} (h : RB I B w us s) (x : Int) : RB I B (w.setCell ⟨B, 31, none⟩ (.int .i64 x)) (us.set 31 (.int .i64 x)) { s with md := x } :=
  { lu := by simpa using h.lu, b := h.b.set 31 _, bel := h.bel.setCell (p := ⟨B, 31, none⟩) h.ge _, ge := h.ge, ly := h.ly, o := by rw [vx_set_ne (by omega)]; exact h.o.set 31 _, p := by rw [vx_set_ne (by omega)]; exact h.p, y := fun i hi => by rw [vx_set_ne (by omega)]; exact (h.y i hi).set 31 _, f1 := by rw [vx_set_ne (by omega)]; exact h.f1, f2 := by rw [vx_set_ne (by omega)]; exact h.f2, m := vx_set_eq (by rw [h.lu]; decide) _, e := by rw [vx_set_ne (by omega)]; obtain ⟨ws, hw⟩ := h.e; exact ⟨ws, hw.setCell (a := ⟨B, 31, none⟩) (Nat.lt_succ_self B) _⟩ }
theorem RB.setO {I : In} {B : Nat} {w : World} {us : List Value} {s : St} (h : RB I B w us s) (v : Value) (x : List Int) (hx : SlB I B w v x) : RB I B (w.setCell ⟨B, 0, none⟩ v) (us.set 0 v) { s with O := x } :=
  { lu := by simpa using h.lu, b := h.b.set 0 _, bel := h.bel.setCell (p := ⟨B, 0, none⟩) h.ge _, ge := h.ge, ly := h.ly, o := by rw [vx_set_eq (by rw [h.lu]; decide)]; exact hx.set 0 _, p := by rw [vx_set_ne (by omega)]; exact h.p, y := fun i hi => by rw [vx_set_ne (by omega)]; exact (h.y i hi).set 0 _, f1 := by rw [vx_set_ne (by omega)]; exact h.f1, f2 := by rw [vx_set_ne (by omega)]; exact h.f2, m := by rw [vx_set_ne (by omega)]; exact h.m, e := by rw [vx_set_ne (by omega)]; obtain ⟨ws, hw⟩ := h.e; exact ⟨ws, hw.setCell (a := ⟨B, 0, none⟩) (Nat.lt_succ_self B) _⟩ }
theorem RB.setE {I : In} {B : Nat} {w : World} {us : List Value} {s : St} (h : RB I B w us s) (v : Value) (ws : List SV) (x : List Sp) (hx : SOwn (B + 1) w v ws x) : RB I B (w.setCell ⟨B, 32, none⟩ v) (us.set 32 v) { s with es := x } :=
  { lu := by simpa using h.lu, b := h.b.set 32 _, bel := h.bel.setCell (p := ⟨B, 32, none⟩) h.ge _, ge := h.ge, ly := h.ly, o := by rw [vx_set_ne (by omega)]; exact h.o.set 32 _, p := by rw [vx_set_ne (by omega)]; exact h.p, y := fun i hi => by rw [vx_set_ne (by omega)]; exact (h.y i hi).set 32 _, f1 := by rw [vx_set_ne (by omega)]; exact h.f1, f2 := by rw [vx_set_ne (by omega)]; exact h.f2, m := by rw [vx_set_ne (by omega)]; exact h.m, e := by rw [vx_set_eq (by rw [h.lu]; decide)]; exact ⟨ws, hx.setCell (a := ⟨B, 32, none⟩) (Nat.lt_succ_self B) _⟩ }
theorem RB.setRegs {I : In} {B : Nat} {w : World} {us : List Value} {s : St} (h : RB I B w us s) (vs : List Value) (Y : List (List Int)) (hl : vs.length = 27) (hY : Y.length = 27) (hv : ∀ i, i < 27 → SlB I B w (vx vs i) (rx Y i)) : RB I B (w.setCells B 2 vs) (ovl us 2 vs) { s with Y := Y } := by
 have hL := left_setCells w B 2 vs
 have lu := h.lu
 have ne : ∀ {i : Nat}, i < 33 → (i < 2 ∨ 29 ≤ i) → vx (ovl us 2 vs) i = vx us i := fun {i} h1 h2 => vx_ovl_ne (by omega) (by omega)
 exact { lu := by rw [ovl_len, lu], b := h.b.setCells 2 vs, bel := hL.bel h.ge h.bel, ge := h.ge, ly := hY, o := by rw [ne (by omega) (by omega)]; exact h.o.left hL, p := by rw [ne (by omega) (by omega)]; exact h.p, y := fun i hi => by rw [vx_ovl_in (by omega) (by omega)]; exact (hv i hi).left hL, f1 := by rw [ne (by omega) (by omega)]; exact h.f1, f2 := by rw [ne (by omega) (by omega)]; exact h.f2, m := by rw [ne (by omega) (by omega)]; exact h.m, e := by rw [ne (by omega) (by omega)]; obtain ⟨ws, hw⟩ := h.e; exact ⟨ws, hw.left hL (Nat.lt_succ_self B)⟩ }
theorem vx_resL {t : Value} {k fk fa : Int} {vs : List Value} (hl : vs.length = 27) {i : Nat} (h : i < 27) : vx (resL t k vs fk fa) (2 + i) = vx vs i := by
 unfold resL vx
 rw [List.getD_eq_getElem?_getD, List.append_assoc, List.getElem?_append_right (by simp), show 2 + i - [t, Value.int IntKind.i64 k].length = i from by simp, List.getElem?_append_left (by rw [hl]; exact h), List.getD_eq_getElem?_getD]
theorem rb_new {I : In} (hI : InOk I) {w : World} {B : Nat} {fk fa : Int} (cm : C5) (hB : BlkR w B (resL (.slice I.a I.n I.c) I.k I.vs fk fa) 138) (hb : Below I.w0.heap.size I.w0 w) (hge : I.w0.heap.size ≤ B) : RB I B w (resL (.slice I.a I.n I.c) I.k I.vs fk fa) ⟨cm, I.t, I.k, I.X, fk, fa, 0, []⟩ := by
 have hl := hI.rgs.lv
 have hx := hI.rgs.lx
 have hy : ∀ i, i < 27 → SlB I B w (vx I.vs i) (rx I.X i) := fun i hi => .inl (.inr (.inl ⟨i, hi, rfl, rfl⟩))
 have ho : SlB I B w (.slice I.a I.n I.c) I.t := .inl (.inl ⟨rfl, rfl⟩)
 clear hI
 refine ⟨resL_len hl, hB, hb, hge, hx, ho, rfl, fun i hi => by rw [vx_resL hl hi]; exact hy i hi, ?_, ?_, ?_, ?_⟩
 all_goals
  obtain ⟨w0, a, n, c, t, k, vs, X⟩ := I
  dsimp only at *
  obtain ⟨v0, v1, v2, v3, v4, v5, v6, v7, v8, v9, v10, v11, v12, v13, v14, v15, v16, v17, v18, v19, v20, v21, v22, v23, v24, v25, v26, rfl⟩ := list27 hl
  first | rfl | exact ⟨[], SOwn.nil _ _⟩
end Go.Proofs.Ytmipnikhgihcpaa
