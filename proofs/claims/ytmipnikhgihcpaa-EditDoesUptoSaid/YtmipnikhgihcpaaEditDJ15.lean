/- LiftEditDoes, part 15: joined from the texts EdLaw OpenN OpenI2 OpenAgg OpenRow BulkA Bulk. No condition of its own. -/
import Derived.Test.YtmipnikhgihcpaaEditDJ1
import Derived.Test.YtmipnikhgihcpaaEditDJ14
import Derived.Lib.SmallJoins
import Derived.ProofKit
import Derived.OpenShut
import Derived.WalkKit
import Derived.ChangeOld
import Derived.Below
import Derived.SizedLaws
import Derived.ChangeSame
import Derived.Test.YtmipnikhgihcpaaRows
set_option linter.unusedVariables false
set_option linter.unusedSimpArgs false
namespace Go.Proofs.Ytmipnikhgihcpaa
open Go.RowKit
theorem boxes4e (w : World) (l f c : Array Value) (vs : List Value) (tl tr tf tc : TypeId) :
  let W := (((w.alloc (.cells l tl)).alloc (.cells (rgA vs) tr)).alloc (.cells f tf)).alloc (.cells c tc)
  Blk W w.heap.size l tl ∧ BlkR W (w.heap.size + 1) vs tr ∧ Blk W (w.heap.size + 2) f tf ∧ Blk W (w.heap.size + 3) c tc ∧ Below w.heap.size w W ∧ W.heap.size = w.heap.size + 4 := by
 have h1 := Blk.new w l tl
 have h2 := Blk.new (w.alloc (.cells l tl)) (rgA vs) tr
 have h3 := Blk.new ((w.alloc (.cells l tl)).alloc (.cells (rgA vs) tr)) f tf
 have h4 := Blk.new (((w.alloc (.cells l tl)).alloc (.cells (rgA vs) tr)).alloc (.cells f tf)) c tc
 simp only [World.size_alloc] at h2 h3 h4
 exact ⟨((h1.alloc _).alloc _).alloc _, (h2.alloc _).alloc _, h3.alloc _, h4, (((below1 w _).alloc (by simp only [World.size_alloc]; omega) _).alloc (by simp only [World.size_alloc]; omega) _).alloc (by simp only [World.size_alloc]; omega) _, by simp only [World.size_alloc]⟩
theorem RdS.below {w w' : World} {rs : List Value} {s : St} (h : RdS w rs s) (hb : Below w.heap.size w w') : RdS w' rs s :=
 ⟨h.lr, h.o.below hb, h.p, h.ly, fun i hi => (h.y i hi).below hb, h.f1, h.f2, h.m, by obtain ⟨a, c, h1, h2, h3⟩ := h.e; exact ⟨a, c, h1, h2.below hb, h3⟩⟩
theorem Sl.one {w : World} {v : Value} {xs : List Int} (h : Sl w v xs) : v.oneCell' = true := by
 obtain ⟨a, n, c, rfl, -⟩ := h; rfl
theorem RdS.one {w : World} {rs : List Value} {s : St} (h : RdS w rs s) : ∀ v ∈ rs, v.oneCell' = true := by
 intro v hv
 obtain ⟨i, hi, rfl⟩ := vx_mem hv
 rw [h.lr] at hi
 by_cases h0 : i = 0
 ·subst h0; exact h.o.one
 by_cases h1 : i = 1
 ·subst h1; rw [h.p]; rfl
 by_cases h2 : i < 29
 ·have := (h.y (i - 2) (by omega)).one
  rwa [show 2 + (i - 2) = i from by omega] at this
 by_cases h3 : i = 29
 ·subst h3; rw [h.f1]; rfl
 by_cases h4 : i = 30
 ·subst h4; rw [h.f2]; rfl
 by_cases h5 : i = 31
 ·subst h5; rw [h.m]; rfl
 obtain rfl : i = 32 := by omega
 obtain ⟨a, c, e, -⟩ := h.e; rw [e]; rfl
def rgV (rs : List Value) : List Value := (rs.drop 2).take 27
theorem rgV_len {rs : List Value} (h : rs.length = 33) : (rgV rs).length = 27 := by simp [rgV, h]
theorem vx_rgV {rs : List Value} {i : Nat} (hi : i < 27) : vx (rgV rs) i = vx rs (2 + i) := by
 unfold rgV vx
 rw [List.getD_eq_getElem?_getD, List.getD_eq_getElem?_getD, List.getElem?_take, if_pos hi, List.getElem?_drop]
theorem rgV_at {w : World} {P : Nat} {rs : List Value} {e : TypeId} (h : BlkR w P rs e) (hl : rs.length = 33) : w.rangeAt P 2 (rgV rs) := by
 intro j v hv
 have hj : j < 27 := by rw [← rgV_len hl]; exact (List.getElem?_eq_some_iff.1 hv).1
 have e : vx (rgV rs) j = v := by rw [vx, List.getD_eq_getElem?_getD, hv]; rfl
 rw [vx_rgV hj] at e
 rw [h.cell (by omega), e]
theorem RdS.rgs {w : World} {rs : List Value} {s : St} (h : RdS w rs s) : Rgs w (rgV rs) s.Y :=
 ⟨rgV_len h.lr, h.ly, fun i hi => by rw [vx_rgV hi]; exact h.y i hi⟩
theorem regs_load_mid {ops : Array Oper} {rest : List Oper} {op : Oper} {a : Act} {w : World} {Q : Exit → Act → World → Prop} (hw : Region.wanted op (yielded ops a.tmps) = true) (x : Operand) (ho : op.op = .load 133 x)
  (B o : Nat) (hx : a.eval x = .pointer (some ⟨B, o, none⟩)) (vs : List Value) (hB : w.rangeAt B o vs) (hl : vs.length = 27)
  (h : wpList Try.prog ops Q rest (a.put op.dst (.agg (rgA vs))) w) : wpList Try.prog ops Q (op :: rest) a w :=
 wpList_step fun K hK => by
  rw [if_pos hw]
  exact wp_load_mid 133 x ho B o hx vs _ hB under_regs rfl (by rw [hl]; exact size_regs) (hK _ _ h)
theorem ed_cell {w w' : World} {P : Nat} {rs : List Value} {e : TypeId} {v : Value} (h : BlkR w P rs e) (hl : rs.length = 33) (hb : Below w.heap.size w w') {i : Nat} (hi : i < 33) (he : vx rs i = v) : w'.cell? ⟨P, i, none⟩ = some v := by
 rw [BlkR.cell (h.below hb h.lt) (by omega), he]
theorem keepE {B : Nat} {u v : Value} {w w1 w2 : World} (h : w1.cell? ⟨B, 0, none⟩ = some u ∧ w1.cell? ⟨B, 1, none⟩ = some v ∧ Below w.heap.size w w1) (hb : Below w1.heap.size w1 w2) : w2.cell? ⟨B, 0, none⟩ = some u ∧ w2.cell? ⟨B, 1, none⟩ = some v ∧ Below w.heap.size w w2 :=
 ⟨below_keeps hb _ _ h.1, below_keeps hb _ _ h.2.1, h.2.2.trans (hb.mono h.2.2.size)⟩
set_option maxRecDepth 100000 in
set_option maxHeartbeats 4000000 in
theorem ed_law (er : Int) (s : St) (a : Option Addr) (n c : Nat) (k fk fa : Int) (vs : List Value) (cm : C5) (w : World) (hlv : vs.length = 27)
  (hA : ∀ w1, Below w.heap.size w w1 → Calls Try.prog 83 #[.agg #[.slice a n c, .int .i64 k], .agg (rgA vs), .agg #[.int .i64 fk, .int .i64 fa], .agg #[.int .i64 cm.a, .int .i64 cm.b, .int .i64 cm.c, .int .i64 cm.d, .int .i64 cm.e]] w1 (RdPost er s w1))
  (hB : ∀ w1, Below w.heap.size w w1 → Calls Try.prog 84 #[.agg #[.slice a n c, .int .i64 k], .agg (rgA vs), .agg #[.int .i64 fk, .int .i64 fa], .agg #[.int .i64 cm.a, .int .i64 cm.b, .int .i64 cm.c, .int .i64 cm.d, .int .i64 cm.e]] w1 (RdPost er s w1)) :
  Calls Try.prog 12 #[.agg #[.slice a n c, .int .i64 k], .agg (rgA vs), .agg #[.int .i64 fk, .int .i64 fa], .agg #[.int .i64 cm.a, .int .i64 cm.b, .int .i64 cm.c, .int .i64 cm.d, .int .i64 cm.e]] w fun e w' => e = .returned (.bool true) ∧ Below w.heap.size w w' := by
 have hal := alloc_res
 have HA := Lib.hid hA; have HB := Lib.hid hB
 clear hA hB
 have hbx := boxes4e w #[.slice a n c, .int .i64 k] #[.int .i64 fk, .int .i64 fa] #[.int .i64 cm.a, .int .i64 cm.b, .int .i64 cm.c, .int .i64 cm.d, .int .i64 cm.e] vs 131 133 135 80
 dsimp only at hbx
 go_enter Try.func12, Try.ntmps12
 go_upto_region 1 with fail
 generalize ((((w.alloc (.cells #[.slice a n c, .int .i64 k] 131)).alloc (.cells (rgA vs) 133)).alloc (.cells #[.int .i64 fk, .int .i64 fa] 135)).alloc (.cells #[.int .i64 cm.a, .int .i64 cm.b, .int .i64 cm.c, .int .i64 cm.d, .int .i64 cm.e] 80)) = w1 at *
 obtain ⟨hLn, hRg, hFd, hCm, hbw, hsz⟩ := hbx
 have hsz' : w.heap.size + 4 ≤ w1.heap.size := Nat.le_of_eq hsz.symm
 clear hsz
 obtain ⟨l0, l1, -, -⟩ := Blk.two hLn
 obtain ⟨q0, q1, -, -⟩ := Blk.two hFd
 obtain ⟨d0, d1, d2, d3, d4⟩ := Blk.five hCm
 have HLn := Lib.hid hLn; have HFd := Lib.hid hFd; have HCm := Lib.hid hCm
 clear hLn hFd hCm
 go_cut [9, 10] (fun v9 v10 wx => ∃ P rs, v9 = .pointer (some ⟨P, 0, none⟩) ∧ v10 = .int .i64 er ∧ w1.heap.size ≤ P ∧ BlkR wx P rs 138 ∧ RdS wx rs s ∧ Below w1.heap.size w1 wx)
 case first =>
  go_wp2_with (first | (refine regs_load rfl _ rfl (w.heap.size + 1) rfl vs _ hRg hlv ?_) | (go_at_call 83; go_loud (refine (HA.out w1 hbw).mono ?_; rintro e w2 ⟨rs, rfl, hr, hb2⟩)) | ((with_reducible show wpList _ _ _ (⟨none, Op.store _ _ _, _, _, _, _⟩ :: _) _ _); go_loud (refine res_store rfl _ _ rfl w2.heap.size 0 rfl rs rfl zero33 _ (BlkR.new w2 zero33 138) (Nat.le_refl 33) hr.lr hr.one ?_; change wpList _ _ _ _ _ ((w2.alloc (.cells (rgA zero33) 138)).setCells w2.heap.size 0 rs); have hz9 := zero_store (w := w2) (BlkR.new w2 zero33 138) zero33_len (below1 w2 _) (Nat.le_refl _) rs hr.lr; generalize ((w2.alloc (.cells (rgA zero33) 138)).setCells w2.heap.size 0 rs) = w9 at hz9 ⊢)))
  go_meet
  exact ⟨_, _, rfl, rfl, hb2.size, hz9.1, hr.below hz9.2, below_then hb2 hb2.size hz9.2⟩
 obtain ⟨P, rs, rfl, rfl, hP, hRs, hS, hb1⟩ := hcut
 have hLn := HLn.out.below hb1 HLn.out.lt; have hFd := HFd.out.below hb1 HFd.out.lt; have hCm := HCm.out.below hb1 HCm.out.lt
 have hRg2 : BlkR wc (w.heap.size + 1) vs 133 := hRg.below hb1 hRg.lt
 have hbw2 := hbw.trans (hb1.mono hbw.size)
 have hPl : P < wc.heap.size := hRs.lt
 clear l0 l1 q0 q1 d0 d1 d2 d3 d4 HLn HFd HCm hRg
 obtain ⟨l0, l1, -, -⟩ := Blk.two hLn
 obtain ⟨q0, q1, -, -⟩ := Blk.two hFd
 obtain ⟨d0, d1, d2, d3, d4⟩ := Blk.five hCm
 have HS := Lib.hid hS; have HRs := Lib.hid hRs; have HLn := Lib.hid hLn
 clear hLn hFd hCm hS hRs
 generalize wc = w3 at *
 go_upto_region 2 with fail
 go_cut [11, 12] (fun v9 v10 wx => ∃ P2 us, v9 = .pointer (some ⟨P2, 0, none⟩) ∧ v10 = .int .i64 er ∧ w3.heap.size ≤ P2 ∧ BlkR wx P2 us 138 ∧ RdS wx us s ∧ Below w3.heap.size w3 wx)
 case first =>
  go_wp2_with (first | (refine regs_load rfl _ rfl (w.heap.size + 1) rfl vs _ hRg2 hlv ?_) | (go_at_call 84; go_loud (refine (HB.out w3 hbw2).mono ?_; rintro e w2 ⟨us, rfl, hr, hb2⟩)) | ((with_reducible show wpList _ _ _ (⟨none, Op.store _ _ _, _, _, _, _⟩ :: _) _ _); go_loud (refine res_store rfl _ _ rfl w2.heap.size 0 rfl us rfl zero33 _ (BlkR.new w2 zero33 138) (Nat.le_refl 33) hr.lr hr.one ?_; change wpList _ _ _ _ _ ((w2.alloc (.cells (rgA zero33) 138)).setCells w2.heap.size 0 us); have hz9 := zero_store (w := w2) (BlkR.new w2 zero33 138) zero33_len (below1 w2 _) (Nat.le_refl _) us hr.lr; generalize ((w2.alloc (.cells (rgA zero33) 138)).setCells w2.heap.size 0 us) = w9 at hz9 ⊢)))
  go_meet
  exact ⟨_, _, rfl, rfl, hb2.size, hz9.1, hr.below hz9.2, below_then hb2 hb2.size hz9.2⟩
 obtain ⟨P2, us, rfl, rfl, hP2, hUs, hT, hb3⟩ := hcut
 have hLn := HLn.out.below hb3 HLn.out.lt
 have hRs : BlkR wc P rs 138 := HRs.out.below hb3 HRs.out.lt
 have hS := HS.out.below hb3
 have hbw3 := hbw2.trans (hb3.mono hbw2.size)
 clear l0 l1 q0 q1 d0 d1 d2 d3 d4 HLn HRs HS hRg2
 have HLn := Lib.hid hLn
 generalize wc = w4 at *
 have hlu := hT.lr; have hlr := hS.lr
 obtain ⟨a1, n1, c1, g1, s1, s2, s3, s4, s5⟩ := hS.o
 obtain ⟨a2, n2, c2, g2, t1, t2, t3, t4, t5⟩ := hT.o
 obtain ⟨a3, c3, g3, s6, s7⟩ := hS.e
 obtain ⟨a4, c4, g4, t6, -⟩ := hT.e
 have x0 : w4.cell? ⟨P, 0, none⟩ = some (.slice a1 n1 c1) := by rw [hRs.cell (by omega), g1]
 have x1 : w4.cell? ⟨P, 1, none⟩ = some (.int .i64 s.p) := by rw [hRs.cell (by omega), hS.p]
 have x29 : w4.cell? ⟨P, 29, none⟩ = some (.int .i64 s.fk) := by rw [hRs.cell (by omega), hS.f1]
 have x30 : w4.cell? ⟨P, 30, none⟩ = some (.int .i64 s.fa) := by rw [hRs.cell (by omega), hS.f2]
 have x31 : w4.cell? ⟨P, 31, none⟩ = some (.int .i64 s.md) := by rw [hRs.cell (by omega), hS.m]
 have x32 : w4.cell? ⟨P, 32, none⟩ = some (.slice a3 s.es.length c3) := by rw [hRs.cell (by omega), g3]
 have y0 : w4.cell? ⟨P2, 0, none⟩ = some (.slice a2 n2 c2) := by rw [hUs.cell (by omega), g2]
 have y1 : w4.cell? ⟨P2, 1, none⟩ = some (.int .i64 s.p) := by rw [hUs.cell (by omega), hT.p]
 have y29 : w4.cell? ⟨P2, 29, none⟩ = some (.int .i64 s.fk) := by rw [hUs.cell (by omega), hT.f1]
 have y30 : w4.cell? ⟨P2, 30, none⟩ = some (.int .i64 s.fa) := by rw [hUs.cell (by omega), hT.f2]
 have y31 : w4.cell? ⟨P2, 31, none⟩ = some (.int .i64 s.md) := by rw [hUs.cell (by omega), hT.m]
 have y32 : w4.cell? ⟨P2, 32, none⟩ = some (.slice a4 s.es.length c4) := by rw [hUs.cell (by omega), g4]
 have hgr := rgV_at hRs hlr; have hgu := rgV_at hUs hlu
 have hlg := rgV_len hlr; have hlh := rgV_len hlu
 have HRs := Lib.hid hRs; have HUs := Lib.hid hUs; have HS := Lib.hid hS; have HT := Lib.hid hT
 have G1 := Lib.hid g1; have G2 := Lib.hid g2; have G3 := Lib.hid g3; have G4 := Lib.hid g4
 have SL := Lib.hid (ref_sameLine a1 a2 n1 n2 c1 c2 s.O s.p w4 s4 t4 s1 t1 (by omega))
 have hx29 := x29
 clear g1 g2 g3 g4 hRs hUs hS hT s1 t1 hlu hlr
 go_upto_region 3 with fail
 go_cut [13] (fun v wx => v = .bool true ∧ Below w4.heap.size w4 wx)
 case first =>
  go_wp2_with (first
   | (refine regs_load_mid (by rfl) (.tmp 36) rfl P 2 rfl (rgV rs) hgr5 hlg ?_)
   | (refine regs_load_mid (by rfl) (.tmp 38) rfl P2 2 rfl (rgV us) hgu5 hlh ?_)
   | (go_at_call 85; go_loud (refine (SL.out).mono ?_; rintro e w5 ⟨rfl, hb5⟩; have hgr5 := rgV_at (HRs.out.below hb5 HRs.out.lt) HS.out.lr; have hgu5 := rgV_at (HUs.out.below hb5 HUs.out.lt) HT.out.lr; have HR5 := Lib.hid (HS.out.below hb5).rgs; have HU5 := Lib.hid (HT.out.below hb5).rgs; clear x0 x1 x29 x30 x31 x32 y0 y1 y29 y30 y31 y32 hgr hgu))
   | (go_at_call 86; go_loud (refine (ref_same_regs (rgV rs) (rgV us) s.Y w5 HR5.out HU5.out).mono ?_; rintro e w6 ⟨rfl, hb6⟩; have hb46 := hb5.trans (hb6.mono hb5.size); have HB46 := Lib.hid hb46; have x29 := ed_cell HRs.out HS.out.lr hb46 (i := 29) (by omega) HS.out.f1; have x30 := ed_cell HRs.out HS.out.lr hb46 (i := 30) (by omega) HS.out.f2; have x31 := ed_cell HRs.out HS.out.lr hb46 (i := 31) (by omega) HS.out.m; have x32 := ed_cell HRs.out HS.out.lr hb46 (i := 32) (by omega) G3.out; have y29 := ed_cell HUs.out HT.out.lr hb46 (i := 29) (by omega) HT.out.f1; have y30 := ed_cell HUs.out HT.out.lr hb46 (i := 30) (by omega) HT.out.f2; have y31 := ed_cell HUs.out HT.out.lr hb46 (i := 31) (by omega) HT.out.m; have y32 := ed_cell HUs.out HT.out.lr hb46 (i := 32) (by omega) G4.out))
   | (go_at_call 87; go_loud (refine (edit_same a3 a4 s.es.length c3 c4 s.es w6 (s6.below HB46.out) (t6.below HB46.out) rfl s7).mono ?_; rintro e w7 ⟨rfl, hb7⟩)))
  go_meet
  exact ⟨rfl, HB46.out.trans (hb7.mono HB46.out.size)⟩
 obtain ⟨rfl, hb5⟩ := hcut
 have hLn5 := HLn.out.below hb5 HLn.out.lt
 have hbw5 := hbw3.trans (hb5.mono hbw3.size)
 clear x0 x1 x29 x30 x31 x32 y0 y1 y29 y30 y31 y32 hgr hgu hx29
 obtain ⟨l0, l1, -, -⟩ := Blk.two hLn5
 obtain ⟨E, hE⟩ : ∃ E, lnE n k = E := ⟨_, rfl⟩
 have CK := fun w => edit_check a n c k w
 have CR := fun w => ref_lineErr a n c k w
 rw [hE] at CK CR
 have HCK := Lib.hid CK; have HCR := Lib.hid CR; have HW5 := Lib.hid hbw5
 clear CK CR hE hLn5 hb5 hbw5 hb1 hb3 hbw hbw2 hbw3
 generalize wc = w5 at *
 go_upto_region 4 with fail
 go_region_held3 (fun w' => w'.cell? ⟨w.heap.size, 0, none⟩ = some (.slice a n c) ∧ w'.cell? ⟨w.heap.size, 1, none⟩ = some (.int .i64 k) ∧ Below w5.heap.size w5 w') (first | exact ⟨l0, l1, (Below.refl _ _).drew⟩ | assumption | exact keepE ‹_› ‹_›)
  (first | (go_at_call 88; ((with_reducible refine (HCK.out _).mono ?_); rintro e w6 ⟨rfl, hb6⟩)) | (go_at_call 89; ((with_reducible refine (HCR.out _).mono ?_); rintro e w7 ⟨rfl, hb7⟩)))
 all_goals
  go_wp2
  go_ret
  exact ⟨rfl, HW5.out.trans ((show Below w5.heap.size w5 _ from And.right (And.right ‹_›)).mono HW5.out.size)⟩
theorem editDoes_walk (a : Option Addr) (n c : Nat) (t : List Int) (k : Int) (vs : List Value) (X : List (List Int)) (fk fa ca cb cc cd ce : Int) (w : World) (hT : Ints w a t) (hn : t.length = n) (hc : n ≤ c) (hc2 : c ≤ 9223372036854775807) (h0 : a = none → n = 0) (hR : Rgs w vs X) (hX : ∀ i, i < 27 → (rx X i).length ≤ 1048576) :
  Calls Try.prog 12 #[.agg #[.slice a n c, .int .i64 k], .agg (rgA vs), .agg #[.int .i64 fk, .int .i64 fa], .agg #[.int .i64 ca, .int .i64 cb, .int .i64 cc, .int .i64 cd, .int .i64 ce]] w fun e w' => e = .returned (.bool true) ∧ Below w.heap.size w w' := by
 by_cases hE : lnE n k = 0
 ·have h1 : n ≤ 200 ∧ 0 ≤ k ∧ (k < n ∨ k = 0) := by
   unfold lnE at hE
   split at hE
   ·exact absurd hE (by decide)
   ·split at hE
    ·exact absurd hE (by decide)
    ·omega
  obtain ⟨h2, h3, h4⟩ := h1
  obtain ⟨k, rfl⟩ := Int.eq_ofNat_of_zero_le h3
  have hI : InOk ⟨w, a, n, c, t, k, vs, X⟩ := { len := hn, top := h2, cap := hc, cap2 := hc2, ints := hT, none := h0, rgs := hR, small := hX, k1 := by dsimp only; omega }
  exact ed_law (doR ⟨w, a, n, c, t, k, vs, X⟩ ⟨ca, cb, cc, cd, ce⟩ fk fa).1 (doR ⟨w, a, n, c, t, k, vs, X⟩ ⟨ca, cb, cc, cd, ce⟩ fk fa).2 a n c k fk fa vs ⟨ca, cb, cc, cd, ce⟩ w hR.lv
   (fun w1 hb => prog_do ⟨w1, a, n, c, t, k, vs, X⟩ (hI.at hb) ⟨ca, cb, cc, cd, ce⟩ fk fa) (fun w1 hb => ref_do ⟨w1, a, n, c, t, k, vs, X⟩ (hI.at hb) ⟨ca, cb, cc, cd, ce⟩ fk fa)
 ·exact ed_law (lnE n k) (zSt ⟨ca, cb, cc, cd, ce⟩) a n c k fk fa vs ⟨ca, cb, cc, cd, ce⟩ w hR.lv
   (fun w1 hb => (do_chk a n c k fk fa vs ⟨ca, cb, cc, cd, ce⟩ w1 _ rfl hE).mono fun _ _ h => h.rd) (fun w1 hb => (ref_do_chk a n c k fk fa vs ⟨ca, cb, cc, cd, ce⟩ w1 _ rfl hE).mono fun _ _ h => h.rd)
end Go.Proofs.Ytmipnikhgihcpaa
namespace Go.Proofs.Ytmipnikhgihcpaa
open Go.Joins Go.ChangeShapes Go.WideShapes Go.RowKit Go.Deep
section
variable {H : Type} {enc : TypeId × Value → H} {P : Program} {w : World} {base : Nat} {spare : Nat → Bool} {held : Bool}
theorem open_aggN {r : Reach} {b0 : Nat} {t : TypeId} {fs : Array Field} {v : Value} {d : DataW H} {p : List MemPlace} (hs : P.underlying t = some (.struct fs)) (hone : oneCellFields P fs = true) (hC : P.cellsOf t = fs.size)
  (hv : Value.okWide P w r b0 t v) (h : DataW.Trod enc P w base spare held t v d p) :
  ∃ (vs : List Value) (ys : List (DataW H × List MemPlace)) (n : Nat), v = .agg vs.toArray ∧ vs.length = fs.size ∧ ys.length = fs.size ∧ d = .agg (ys.map (·.1)) ∧
   ∀ (i : Nat) (f : Field), fs[i]? = some f → ∃ vi yi, vs[i]? = some vi ∧ ys[i]? = some yi ∧ DataW.trod enc P w base spare held n f.type [vi] = some yi := by
 obtain ⟨cs, rfl, hsz⟩ := okWide_struct hs hv
 obtain ⟨fuel, hf⟩ := h
 obtain ⟨xs, n, _, hx, _, hlen, hg⟩ := DataW.trod_struct hs hf
 simp only [Prod.mk.injEq] at hx
 refine ⟨cs.toList, xs, n, by simp, by rw [Array.length_toList, hsz, hC], hlen, hx.1, fun i f hi => ?_⟩
 obtain ⟨o, k⟩ := hone_of hone i f hi
 have hlt : i < fs.size := (Array.getElem?_eq_some_iff.1 hi).1
 have h1 := hg i f hi
 rw [o, k] at h1
 have hil : i < cs.toList.length := by rw [Array.length_toList, hsz, hC]; exact hlt
 have hcell : ((Value.agg cs).cells.toList.drop i).take 1 = [cs.toList[i]'hil] := by
  simp only [Value.cells]
  rw [List.drop_eq_getElem_cons hil]
  simp
 rw [hcell] at h1
 have hxl : i < xs.length := by omega
 rw [List.getElem?_eq_getElem hxl] at h1
 exact ⟨_, _, List.getElem?_eq_getElem hil, List.getElem?_eq_getElem hxl, h1⟩
end
theorem trod_int1 {H : Type} {enc : TypeId × Value → H} {w : World} {base : Nat} {spare : Nat → Bool} {held : Bool} {n : Nat} {t : TypeId} {v : Value} {y : DataW H × List MemPlace} (ht : t = 3) (h : DataW.trod enc Try.prog w base spare held n t [v] = some y) : ∃ a : Int, v = .int .i64 a ∧ InR a := by
 subst ht
 obtain ⟨i, hi, -, hw⟩ := DataW.trod_int Try.underlying3 h
 simp at hi
 exact ⟨i, hi, InR.of_wf hw⟩
set_option maxRecDepth 100000 in
theorem open_i2 {H : Type} {enc : TypeId × Value → H} {w : World} {base : Nat} {spare : Nat → Bool} {held : Bool} {r : Reach} {b0 : Nat} {t : TypeId} {f0 f1 : Field} {v : Value} {d : DataW H} {p : List MemPlace} (hs : Try.prog.underlying t = some (.struct #[f0, f1])) (hone : oneCellFields Try.prog #[f0, f1] = true) (hC : Try.prog.cellsOf t = 2)
  (h0 : f0.type = 3) (h1 : f1.type = 3)
  (hv : Value.okWide Try.prog w r b0 t v) (h : DataW.Trod enc Try.prog w base spare held t v d p) :
  ∃ a0 a1 : Int, v = .agg #[.int .i64 a0, .int .i64 a1] ∧ InR a0 ∧ InR a1 := by
 obtain ⟨vs, ys, n, rfl, hl, -, -, hg⟩ := open_aggN hs hone hC hv h
 match vs, hl with
 | [v0, v1], _ =>
  obtain ⟨u0, y0, e0, -, g0⟩ := hg 0 f0 rfl
  obtain ⟨u1, y1, e1, -, g1⟩ := hg 1 f1 rfl
  simp at e0 e1
  subst e0 e1
  obtain ⟨a0, rfl, r0⟩ := trod_int1 h0 g0
  obtain ⟨a1, rfl, r1⟩ := trod_int1 h1 g1
  exact ⟨a0, a1, rfl, r0, r1⟩
theorem trod_i {H : Type} {enc : TypeId × Value → H} {w : World} {base : Nat} {spare : Nat → Bool} {held : Bool} {n : Nat} {t : TypeId} {v : Value} {y : DataW H × List MemPlace} (ht : t = 3) (h : DataW.trod enc Try.prog w base spare held n t [v] = some y) : ∃ a : Int, v = .int .i64 a ∧ InR a := by
 subst ht
 obtain ⟨i, hi, -, hw⟩ := DataW.trod_int Try.underlying3 h
 simp at hi
 exact ⟨i, hi, InR.of_wf hw⟩
section
variable {H : Type} {enc : TypeId × Value → H} {P : Program} {w : World} {base : Nat} {spare : Nat → Bool} {held : Bool}
theorem open_agg5 {r : Reach} {b0 : Nat} {t : TypeId} {f0 f1 f2 f3 f4 : Field} {v : Value} {d : DataW H} {p : List MemPlace} (hs : P.underlying t = some (.struct #[f0, f1, f2, f3, f4])) (hone : oneCellFields P #[f0, f1, f2, f3, f4] = true) (hC : P.cellsOf t = 5)
  (hv : Value.okWide P w r b0 t v) (h : DataW.Trod enc P w base spare held t v d p) :
  ∃ (v0 v1 v2 v3 v4 : Value) (y0 y1 y2 y3 y4 : DataW H × List MemPlace) (n : Nat), v = .agg #[v0, v1, v2, v3, v4] ∧ d = .agg [y0.1, y1.1, y2.1, y3.1, y4.1] ∧ p = y0.2 ++ (y1.2 ++ (y2.2 ++ (y3.2 ++ y4.2))) ∧
   DataW.trod enc P w base spare held n f0.type [v0] = some y0 ∧ DataW.trod enc P w base spare held n f1.type [v1] = some y1 ∧ DataW.trod enc P w base spare held n f2.type [v2] = some y2 ∧ DataW.trod enc P w base spare held n f3.type [v3] = some y3 ∧ DataW.trod enc P w base spare held n f4.type [v4] = some y4 := by
 obtain ⟨cs, rfl, hsz⟩ := okWide_struct hs hv
 obtain ⟨l⟩ := cs
 match l, hsz.trans hC with
 | [c0, c1, c2, c3, c4], _ =>
  obtain ⟨fuel, hf⟩ := h
  obtain ⟨xs, n, _, hx, _, hlen, hg⟩ := DataW.trod_struct hs hf
  obtain ⟨o0, k0⟩ := hone_of hone 0 f0 rfl
  obtain ⟨o1, k1⟩ := hone_of hone 1 f1 rfl
  obtain ⟨o2, k2⟩ := hone_of hone 2 f2 rfl
  obtain ⟨o3, k3⟩ := hone_of hone 3 f3 rfl
  obtain ⟨o4, k4⟩ := hone_of hone 4 f4 rfl
  match xs, hlen with
  | [y0, y1, y2, y3, y4], _ =>
   simp only [Prod.mk.injEq] at hx
   exact ⟨c0, c1, c2, c3, c4, y0, y1, y2, y3, y4, n, rfl, by simpa using hx.1, by simpa using hx.2, by simpa [Value.cells, o0, k0] using hg 0 f0 rfl, by simpa [Value.cells, o1, k1] using hg 1 f1 rfl, by simpa [Value.cells, o2, k2] using hg 2 f2 rfl, by simpa [Value.cells, o3, k3] using hg 3 f3 rfl, by simpa [Value.cells, o4, k4] using hg 4 f4 rfl⟩
end
set_option maxRecDepth 100000 in
theorem open_i5 {H : Type} {enc : TypeId × Value → H} {w : World} {base : Nat} {spare : Nat → Bool} {held : Bool} {r : Reach} {b0 : Nat} {t : TypeId} {f0 f1 f2 f3 f4 : Field} {v : Value} {d : DataW H} {p : List MemPlace} (hs : Try.prog.underlying t = some (.struct #[f0, f1, f2, f3, f4])) (hone : oneCellFields Try.prog #[f0, f1, f2, f3, f4] = true) (hC : Try.prog.cellsOf t = 5)
  (h0 : f0.type = 3) (h1 : f1.type = 3) (h2 : f2.type = 3) (h3 : f3.type = 3) (h4 : f4.type = 3)
  (hv : Value.okWide Try.prog w r b0 t v) (h : DataW.Trod enc Try.prog w base spare held t v d p) :
  ∃ a0 a1 a2 a3 a4 : Int, v = .agg #[.int .i64 a0, .int .i64 a1, .int .i64 a2, .int .i64 a3, .int .i64 a4] ∧ InR a0 ∧ InR a1 ∧ InR a2 ∧ InR a3 ∧ InR a4 := by
 obtain ⟨v0, v1, v2, v3, v4, y0, y1, y2, y3, y4, n, rfl, -, -, g0, g1, g2, g3, g4⟩ := open_agg5 hs hone hC hv h
 obtain ⟨a0, rfl, r0⟩ := trod_i h0 g0
 obtain ⟨a1, rfl, r1⟩ := trod_i h1 g1
 obtain ⟨a2, rfl, r2⟩ := trod_i h2 g2
 obtain ⟨a3, rfl, r3⟩ := trod_i h3 g3
 obtain ⟨a4, rfl, r4⟩ := trod_i h4 g4
 exact ⟨a0, a1, a2, a3, a4, rfl, r0, r1, r2, r3, r4⟩
end Go.Proofs.Ytmipnikhgihcpaa
namespace Go.Proofs.Ytmipnikhgihcpaa
open Go.ChangeShapes Go.WideShapes Go.ChangeAt Go.RowKit
set_option maxRecDepth 100000 in
theorem open_row2 {H : Type} {enc : TypeId × Value → H} {W : World} {base : Nat} {t : TypeId} {f0 f1 : Field} {v : Value} {d : DataW H} {p : List MemPlace}
  (ht : Try.prog.underlying t = some (.struct #[f0, f1])) (hc : Try.prog.cellsOf t = 2) (h0 : f0.offset = 0) (h1 : f1.offset = 1) (t0 : f0.type = 22) (t1 : f1.type = 3)
  (hval : Value.okWide Try.prog W .any base t v) (h : DataW.Trod enc Try.prog W 0 (fun _ => true) true t v d p) :
  ∃ a n c xs i, v = .agg #[.slice a n c, .int .i64 i] ∧ Ints W a xs ∧ xs.length = n ∧ n ≤ c ∧ c ≤ 9223372036854775807 ∧ (∀ x ∈ xs, InR x) ∧ (a = none → n = 0) ∧ InR i ∧ (a = none → c = 0) := by
 obtain ⟨cs, rfl, hsz⟩ := okWide_struct ht hval
 rw [hc] at hsz
 obtain ⟨fuel, hf⟩ := h
 obtain ⟨y0, y1, n, _, _, hf0, hf1⟩ := trod_struct2 ht hf
 obtain ⟨c0, c1, rfl⟩ : ∃ c0 c1, cs = #[c0, c1] := by
  rcases cs with ⟨l⟩
  match l, hsz with
  | [c0, c1], _ => exact ⟨c0, c1, rfl⟩
 have e0 : Try.prog.cellsOf 22 = 1 := by kernel_rfl
 have e1 : Try.prog.cellsOf 3 = 1 := by kernel_rfl
 rw [h0, t0, e0] at hf0
 rw [h1, t1, e1] at hf1
 simp [Value.cells] at hf0 hf1
 obtain ⟨i, hi, -, hw⟩ := DataW.trod_int Try.underlying3 hf1
 simp at hi
 subst hi
 rcases open_ints Try.underlying22 Try.underlying3 (by kernel_rfl) hf0 with ⟨hcs, _⟩ | ⟨x, l, c, zs, hcs, _, hl, hm, hz, hx, hcell, hwz⟩
 ·simp at hcs
  subst hcs
  exact ⟨none, 0, 0, [], i, rfl, .inl rfl, rfl, by omega, by omega, by simp, fun _ => rfl, InR.of_wf hw, fun _ => rfl⟩
 ·simp at hcs
  subst hcs
  simp only [if_true] at hz
  exact ⟨some x, l, c, zs.take l, i, rfl, Ints.of_row hcell (by omega), by simp; omega, hl, by simpa [maxLen] using hm, fun y hy => InR.of_wf (hwz y (List.mem_of_mem_take hy)), by simp, InR.of_wf hw, by simp⟩
theorem bulk_one {H : Type} (d : DataW H) : 1 ≤ Rows.uptoBulk d := by
 cases d with
 | lit l => cases l <;> simp [Rows.uptoBulk]
 | nil => simp [Rows.uptoBulk]
 | ptr d => simp [Rows.uptoBulk]
 | slice elems spare => simp [Rows.uptoBulk]
 | agg parts => simp [Rows.uptoBulk]
 | iface t d => simp [Rows.uptoBulk]
 | map entries => simp [Rows.uptoBulk]
 | held h => simp [Rows.uptoBulk]
theorem bulk_part {H : Type} {d : DataW H} {l : List (DataW H)} (h : d ∈ l) : Rows.uptoBulk d ≤ Rows.uptoBulkAll l := by
 induction l with
 | nil => cases h
 | cons x r ih =>
  simp only [Rows.uptoBulkAll]
  cases List.mem_cons.1 h with
  | inl e => subst e; omega
  | inr e => have := ih e; omega
theorem bulk_length {H : Type} (l : List (DataW H)) : l.length ≤ Rows.uptoBulkAll l := by
 induction l with
 | nil => simp [Rows.uptoBulkAll]
 | cons x r ih => have := bulk_one x; simp only [Rows.uptoBulkAll, List.length_cons]; omega
theorem bulk_slice {H : Type} (elems spare : List (DataW H)) : elems.length + spare.length + 1 ≤ Rows.uptoBulk (.slice elems spare) := by
 have h1 := bulk_length elems
 have h2 := bulk_length spare
 simp only [Rows.uptoBulk]
 omega
theorem bulk_agg {H : Type} {d : DataW H} {l : List (DataW H)} (h : d ∈ l) : Rows.uptoBulk d + 1 ≤ Rows.uptoBulk (.agg l) := by
 have := bulk_part h
 simp only [Rows.uptoBulk]
 omega
theorem bulk_bound {H : Type} {l : List (DataW H)} (hk : Rows.uptoSmall H l = true) : Rows.uptoBulkAll l ≤ 1048576 := of_decide_eq_true hk
theorem bulk_arg {H : Type} {l : List (DataW H)} (hk : Rows.uptoSmall H l = true) {d : DataW H} (h : d ∈ l) : Rows.uptoBulk d ≤ 1048576 :=
 Nat.le_trans (bulk_part h) (bulk_bound hk)
theorem open_sl {H : Type} {enc : TypeId × Value → H} {W : World} {fuel : Nat} {cs : List Value} {y : DataW H × List MemPlace}
  (h : DataW.trod enc Try.prog W 0 (fun _ => true) true fuel 22 cs = some y) :
  ∃ v xs, cs = [v] ∧ Sl W v xs ∧ (∀ x ∈ xs, InR x) ∧ xs.length ≤ Rows.uptoBulk y.1 := by
 rcases open_ints Try.underlying22 Try.underlying3 (by kernel_rfl) h with ⟨hcs, _⟩ | ⟨x, l, c, zs, hcs, _, hl, hm, hz, hx, hcell, hwz⟩
 ·exact ⟨_, [], hcs, Sl.nil _, by simp, Nat.zero_le _⟩
 ·simp only [if_true] at hz
  have hlen : (zs.take l).length = l := by simp; omega
  refine ⟨_, zs.take l, hcs, ⟨some x, l, c, rfl, hlen, hl, by unfold maxLen at hm; omega, Ints.of_row hcell (by omega), by simp⟩, fun y hy => InR.of_wf (hwz y (List.mem_of_mem_take hy)), ?_⟩
  rw [hx]
  refine Nat.le_trans ?_ (Nat.le_trans (Nat.le_of_lt (Nat.lt_of_lt_of_le (Nat.lt_succ_self _) (bulk_slice _ _))) (Nat.le_refl _))
  simp [lits]
set_option maxRecDepth 100000 in
theorem open_regs {H : Type} {enc : TypeId × Value → H} {w : World} {r : Reach} {b0 : Nat} {v : Value} {d : DataW H} {p : List MemPlace}
  (hv : Value.okWide Try.prog w r b0 133 v) (h : DataW.Trod enc Try.prog w 0 (fun _ => true) true 133 v d p) :
  ∃ vs X, v = .agg (rgA vs) ∧ Rgs w vs X ∧ (∀ i, i < 27 → (rx X i).length ≤ Rows.uptoBulk d) ∧ (∀ i, i < 27 → ∀ x ∈ rx X i, InR x) := by
 have hc1 : Try.prog.cellsOf 22 = 1 := by kernel_rfl
 have hc27 : Try.prog.cellsOf 133 = 27 := by kernel_rfl
 obtain ⟨cs, rfl, hsz⟩ : ∃ cs, v = .agg cs ∧ cs.size = 27 := by
  simp only [Value.okWide, under_regs] at hv
  obtain ⟨cs, h1, h2, _⟩ := hv
  exact ⟨cs, h1, by rw [h2, hc27]⟩
 obtain ⟨fuel, hf⟩ := h
 obtain ⟨ys, m, -, hy, hl, hyl, hi⟩ := DataW.trod_array under_regs hf
 simp only [Prod.mk.injEq] at hy
 have hall : ∀ i : Nat, ∃ xs : List Int, i < 27 → Sl w (vx cs.toList i) xs ∧ xs.length ≤ Rows.uptoBulk d ∧ ∀ x ∈ xs, InR x := by
  intro i
  by_cases hlt : i < 27
  ·have h1 := hi i hlt
   rw [hc1, Nat.mul_one] at h1
   have hil : i < cs.toList.length := by simp [hsz, hlt]
   have hcell : ((Value.agg cs).cells.toList.drop i).take 1 = [cs[i]'(by omega)] := by
    simp only [Value.cells]
    rw [List.drop_eq_getElem_cons hil]
    simp
   rw [hcell, List.getElem?_eq_getElem (by omega)] at h1
   obtain ⟨v', xs, hv', hs, hr, hb⟩ := open_sl h1
   simp at hv'
   subst hv'
   refine ⟨xs, fun _ => ⟨?_, ?_, hr⟩⟩
   ·have : vx cs.toList i = cs[i]'(by omega) := by simp [vx, hsz, hlt]
    rw [this]; exact hs
   ·refine Nat.le_trans hb ?_
    rw [hy.1]
    have hmem : (ys[i]'(by omega)).1 ∈ ys.map (·.1) := List.mem_map.2 ⟨_, List.getElem_mem _, rfl⟩
    have := bulk_agg hmem
    omega
  ·exact ⟨[], fun h => absurd h hlt⟩
 obtain ⟨f, hf⟩ := Classical.axiomOfChoice hall
 have hX : ∀ i, i < 27 → rx ((List.range 27).map f) i = f i := fun i hlt => by
  unfold rx
  rw [List.getD_eq_getElem?_getD, List.getElem?_map, List.getElem?_range hlt]
  rfl
 refine ⟨cs.toList, (List.range 27).map f, by simp [rgA], ⟨by simp [hsz], by simp, fun i hlt => ?_⟩, fun i hlt => ?_, fun i hlt => ?_⟩
 ·rw [hX i hlt]; exact (hf i hlt).1
 ·rw [hX i hlt]; exact (hf i hlt).2.1
 ·rw [hX i hlt]; exact (hf i hlt).2.2
end Go.Proofs.Ytmipnikhgihcpaa
