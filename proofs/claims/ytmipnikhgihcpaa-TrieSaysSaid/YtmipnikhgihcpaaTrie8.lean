/- Contract of (*trie.Trie).each. -/
import Derived.Test.YtmipnikhgihcpaaTrieW
import Derived.Test.YtmipnikhgihcpaaTrie7
import Derived.RangeFuncKeeps
import Derived.RangeFuncBound
import Derived.RangeFuncCalls
import Derived.RangeFuncLeaves
import Derived.Shelf.Abstract
import Derived.Shelf.RegionOpen
import Derived.WalkKit
import Derived.OwnWalkIn
import Derived.TacticsInMore
import Derived.LoopNIn
import Derived.LoopIn
namespace Go.Proofs.Ytmipnikhgihcpaa
open Go.RowKit Go.Shelf
set_option linter.unusedVariables false
set_option linter.unusedSimpArgs false
attribute [local go_sem] Oper.semAt_some

/-- a word handed to yield -/
def YV (n0 : Nat) (W : World) (v : Value) (x : List Int) : Prop := ∃ a n c, v = .slice a n c ∧ x.length = n ∧ n ≤ c ∧ c ≤ 9223372036854775807 ∧ (a = none → n = 0) ∧ IR n0 W a x
def YPost (n0 : Nat) (J Jx : List (List Int) → World → Prop) (pre : List (List Int)) (x : List Int) (W : World) (e : Ending) (W' : World) : Prop :=
  ∃ t, e = .returned (.bool t) ∧ ((t = true ∧ J (pre ++ [x]) W') ∨ (t = false ∧ Jx (pre ++ [x]) W')) ∧ IKeep n0 W W'
def EPost (n0 : Nat) (J Jx : List (List Int) → World → Prop) (pre ws : List (List Int)) (W : World) (e : Ending) (W' : World) : Prop :=
  ∃ t, e = .returned (.bool t) ∧ ((t = true ∧ J (pre ++ ws) W') ∨ (t = false ∧ ∃ q, q <+: ws ∧ Jx (pre ++ q) W')) ∧ IKeep n0 W W'
theorem step_lookQ {ops : Array Oper} {o : Oper} {a : Act} {w : World} {K : Act → World → Prop} {Q : Exit → Act → World → Prop} {E : Prop}
    (hg : o.guard = none) (m k : Operand) (hop : o.op = Op.lookup 212 m k false) (v u : Value) (hm : a.eval m = v) (hk : a.eval k = u) {r : Value}
    (hr : (Instr.lookup 212 v u false).run Try.prog w = .ok r w) (hK : K (a.put o.dst r) w) :
    if Region.wanted o (yielded ops a.tmps) = true then Oper.wp Try.prog o a w K Q else E := by
  rw [if_pos (by simp [Region.wanted, hg])]
  unfold Oper.wp
  simp [execOp, hop, hm, hk, hr, Result.andThen]
  exact hK
theorem keepT {n0 P : Nat} {v : Value} {wr w' w'' : World} (h : w'.cell? ⟨P, 0, none⟩ = some v ∧ IKeep n0 wr w') (hn : n0 ≤ wr.heap.size) (hb : Below w'.heap.size w' w'') : w''.cell? ⟨P, 0, none⟩ = some v ∧ IKeep n0 wr w'' :=
  ⟨(hb.cell (cell_lt h.1)).trans h.1, h.2.trans (IKeep.of hb (Nat.le_trans hn h.2.below.size))⟩
theorem keepTd {n0 P : Nat} {v : Value} {wr w' : World} (h : w'.cell? ⟨P, 0, none⟩ = some v ∧ IKeep n0 wr w') : w'.drew.cell? ⟨P, 0, none⟩ = some v ∧ IKeep n0 wr w'.drew :=
  ⟨h.1, ⟨h.2.below.drew, h.2.ints⟩⟩
theorem own_yv {n0 base : Nat} {w : World} {a : Option Addr} {n c : Nat} {xs : List Int} (h : Own 3 base w (.slice a n c) xs) : YV n0 w (.slice a n c) xs :=
  ⟨a, n, c, rfl, h.sl.get.1, h.sl.get.2.1, h.sl.get.2.2.1, h.sl.get.2.2.2.2, h.ir⟩
theorem al_le (w : World) (o : Obj) : w.heap.size ≤ (w.alloc o).heap.size := by rw [World.size_alloc]; exact Nat.le_succ _
theorem wide_d (n : Nat) : Fence.wide.depth.isSome = true → 1 ≤ n := fun h => by cases h
theorem room_none {F : Fence} (hd : F.depth = none) (k : Nat) : F.room k := fun d h => by rw [hd] at h; cases h

set_option maxRecDepth 100000 in
set_option maxHeartbeats 4000000 in
theorem trie_each (W0 : World) (l N : Nat) (J Jx : List (List Int) → World → Prop) (hJ : ∀ s W W', J s W → Below W.heap.size W W' → J s W')
    (hY : ∀ m pre v x W, J pre W → pre.length < N → YV W0.heap.size W v x → YieldAt Fence.wide m Try.prog l #[v] W (YPost W0.heap.size J Jx pre x W))
    (bs : Nat) (A S : List (List Int)) (B : Nat → Nat) (M : Nat → Option Nat) (hH : TrH W0 bs A B M (inS S) (cnt S)) (hI : TInv A S) (hS : S.Nodup) (hA : A.length ≤ 100000) (L : Nat) (hL : ∀ p ∈ A, p.length ≤ L) (hL2 : L ≤ 1000000) :
    ∀ (k x n : Nat) (a : Option Addr) (m c : Nat) (pre : List (List Int)) (W : World), L + 1 - (rx A x).length ≤ k → x < A.length → Below W0.heap.size W0 W → YV W0.heap.size W (.slice a m c) (rx A x) → J pre W → pre.length + (begS S (rx A x)).length ≤ N →
    CallsIn Fence.wide n Try.prog 178 #[.pointer (some ⟨B x, 0, none⟩), .slice a m c, .func (.yield l) #[] #[]] W (EPost W0.heap.size J Jx pre (begS S (rx A x)) W)
  | 0, x, n, a, m, c, pre, W, hk, hx, hb, hv, hj, hN => by
    have := hL _ (rx_memT hx)
    omega
  | k + 1, x, n, a, m, c, pre, W, hk, hx, hb, hv, hj, hN => by
    have hHW := hH.kept hb
    obtain ⟨y0, y1, -, -, -, -⟩ := (hHW.blk x hx).three
    obtain ⟨b, hbb⟩ : ∃ b, inS S (rx A x) = b := ⟨_, rfl⟩
    rw [hbb] at y1
    cases b with
    | false =>
      refine callsIn_of_wp Try.func178 rfl trivial ?_ rfl
      simp only [Try.ntmps178, List.size_toArray, List.length_cons, List.length_nil, Nat.reduceAdd, Nat.reduceSub, Array.replicate_succ, Array.replicate_zero, List.push_toArray, List.append_toArray, List.nil_append, List.cons_append]
      have HO := Lib.hid (trie_order W.heap.size W0.heap.size bs A S B M _ _ hI hA x hx W hHW rfl)
      gi_wp2
      refine ⟨trivial, ?_⟩
      gi_wp2
      refine ⟨fun _ h => (by cases h), ?_⟩
      gi_wp2
      refine ⟨trivial, wide_d _, (callsIn_wide.2 HO.out).mono ?_⟩
      rintro e W2 ⟨a2, c2, rfl, hir2, hc2, hb2⟩
      have hbs := hb.size
      have hk2 : IKeep W0.heap.size W W2 := IKeep.of hb2 hbs
      have hj2 : J (pre ++ []) W2 := hJ _ _ _ (by rw [List.append_nil]; exact hj) hb2
      have HK2 := Lib.hid hk2; have HI2 := Lib.hid hir2; have HJ2 := Lib.hid hj2; have HV := Lib.hid hv; have HB := Lib.hid hb; have HC2 := Lib.hid hc2
      clear hir2 hj2 hk2 hb2 hv hb hc2 hj HO y0 y1 hHW
      have hbn := begS_node hI hS hx
      rw [hbb] at hbn
      simp only [if_true, Bool.false_eq_true, if_false] at hbn
      obtain ⟨ks, hks⟩ : ∃ ks, ordT A x = ks := ⟨_, rfl⟩
      rw [hks] at HI2 HC2 hbn ⊢
      have HBN := Lib.hid hbn
      clear hbn hbb
      obtain ⟨nk, hnk⟩ : ∃ nk, ks.length = nk := ⟨_, rfl⟩
      have HKS := Lib.hid hks; have HNK := Lib.hid hnk
      rw [hnk] at HC2 ⊢
      have hnk2 : nk ≤ 100000 := by
        rw [← hnk, ← hks]; unfold ordT; rw [sortI_len]; unfold keysT; rw [List.length_map]; exact Nat.le_trans (kidsT_len A x) hA
      clear hks hnk
      gi_wp2
      gi_loopw [23] (fun i wr => ∃ j : Nat, i = .int .i64 (j : Int) ∧ j ≤ nk ∧ J ((pre ++ []) ++ (ks.take j).flatMap fun c => begS S (rx A x ++ [c])) wr ∧ IKeep W0.heap.size W wr ∧ IKeep W0.heap.size W2 wr) (fun i _ => nk - (intOf i).toNat)
      case atStart => exact ⟨0, rfl, by omega, by simpa using HJ2.out, HK2.out, IKeep.refl _ _⟩
      case round =>
        obtain ⟨j, rfl, hj, hJJ, hk1, hk2⟩ := hrel
        have HJJ := Lib.hid hJJ; have HK1 := Lib.hid hk1; have HK3 := Lib.hid hk2
        clear hJJ hk1 hk2
        by_cases hlt : j < nk
        · have hjl : j < ks.length := by rw [HNK.out]; exact hlt
          have hir := HI2.out.keep HK3.out
          obtain ⟨b1, o1, rfl, hcc⟩ := hir.1.at hjl
          have cv := hcc j hjl
          have hi0 : (0 : Int) ≤ (j : Int) := by omega
          have hin : (j : Int) < (nk : Int) := by omega
          have hHr := hH.kept (HB.out.trans HK1.out.below)
          obtain ⟨y0, -, -, -, -, -⟩ := (hHr.blk x hx).three
          have hnr : W0.heap.size ≤ wr.heap.size := Nat.le_trans hbs HK1.out.below.size
          obtain ⟨ch, hch⟩ : ∃ ch, ix ks j = ch := ⟨_, rfl⟩
          rw [hch] at cv
          have hcm : ch ∈ ordT A x := by rw [HKS.out, ← hch, ix_eq hjl]; exact List.getElem_mem hjl
          obtain ⟨y, hy, hyk⟩ := mem_ordT.1 hcm
          obtain ⟨hyl, hyr⟩ := mem_kidsT.1 hy
          rw [hyk] at hyr
          have HLK := Lib.hid (fun (w' : World) (hk' : IKeep W0.heap.size wr w') => show (Instr.lookup 212 (.map (M x)) (.int .i64 ch) false).run Try.prog w' = .ok (.pointer (some ⟨B y, 0, none⟩)) w' from by
            obtain ⟨o, ho, hlk⟩ := (hH.kept ((HB.out.trans HK1.out.below).trans hk'.below)).look hI hx ch
            rcases ho with ⟨hno, -⟩ | ⟨z, hz, hrz, rfl⟩
            · exact absurd (hyr ▸ rx_memT hyl) hno
            · rw [rx_inj hI.nodup hyl hz (hyr.trans hrz.symm)]; exact hlk)
          have HV3 := Lib.hid (fun (w' : World) (hk' : IKeep W0.heap.size wr w') => show IR W0.heap.size w' a (rx A x) from by
            obtain ⟨a', n', c', e, -, -, -, -, h⟩ := HV.out
            cases e
            exact (h.keep HK1.out).keep hk')
          have HVL := Lib.hid (show (rx A x).length = m ∧ m ≤ c ∧ c ≤ 9223372036854775807 ∧ (a = none → m = 0) from by
            obtain ⟨a', n', c', e, h1, h2, h3, h4, -⟩ := HV.out
            cases e
            exact ⟨h1, h2, h3, h4⟩)
          have hmL : (rx A x).length ≤ L := hL _ (rx_memT hx)
          have HCL := Lib.hid (fun (w' : World) (hk' : IKeep W0.heap.size wr w') => slices_clone a m c (rx A x) w' (HV3.out w' hk').1 HVL.out.1 (by have := HVL.out.1; omega) HVL.out.2.2.2)
          have hyL : (rx A y).length = (rx A x).length + 1 := by rw [hyr]; simp
          have HEA := Lib.hid (fun (P : List (List Int)) (n' : Nat) (a' : Option Addr) (m' c' : Nat) (w' : World) (hb' : Below W0.heap.size W0 w') (hv' : YV W0.heap.size w' (.slice a' m' c') (rx A y)) (hj' : J P w') (hN' : P.length + (begS S (rx A y)).length ≤ N) => callsIn_wide.1 (trie_each W0 l N J Jx hJ hY bs A S B M hH hI hS hA L hL hL2 k y n' a' m' c' P w' (by omega) hyl hb' hv' hj' hN'))
          have hlr : (rx A x).length < 17592186044416 := by omega
          have HFS := Lib.hid (show ((ks.take (j + 1)).flatMap fun c => begS S (rx A x ++ [c])) = ((ks.take j).flatMap fun c => begS S (rx A x ++ [c])) ++ begS S (rx A y) by
            rw [take_succ_ix hjl, List.flatMap_append, hch, hyr]; simp)
          have HFP := Lib.hid (show ∀ q, q <+: begS S (rx A y) → ([] ++ (((ks.take j).flatMap fun c => begS S (rx A x ++ [c])) ++ q)) <+: begS S (rx A x) from fun q hq => by
            rw [HBN.out]
            refine (List.prefix_append_right_inj _).2 ?_
            have h1 : (ks.flatMap fun c => begS S (rx A x ++ [c])) = ((ks.take (j + 1)).flatMap fun c => begS S (rx A x ++ [c])) ++ (ks.drop (j + 1)).flatMap fun c => begS S (rx A x ++ [c]) := by
              rw [← List.flatMap_append, List.take_append_drop]
            rw [h1, HFS.out]
            exact ((List.prefix_append_right_inj _).2 hq).trans (List.prefix_append _ _))
          have HNN := Lib.hid (show ((pre ++ []) ++ (ks.take j).flatMap fun c => begS S (rx A x ++ [c])).length + (begS S (rx A y)).length ≤ N from by
            have h1 := (HFP.out _ (List.prefix_refl _)).length_le
            simp only [List.length_append] at h1 ⊢
            omega)
          have HYR := Lib.hid hyr
          clear hyr hyk hy hcm hch hcc hHr hir hmL
          gi_wp2
          refine wpIn_wide.2 ?_
          have hBx : B x < W0.heap.size := (hH.blk x hx).lt
          go_region_held3 (fun w' => w'.cell? ⟨B x, 0, none⟩ = some (.map (M x)) ∧ IKeep W0.heap.size wr w') (first | exact ⟨y0, IKeep.of (Below.refl _ _).drew hnr⟩ | (with_reducible assumption) | exact keepT ‹_› hnr (below1 _ _) | exact keepT ‹_› hnr ‹_›) (first | (refine step_lookQ rfl _ _ rfl (.map (M x)) (.int .i64 ch) rfl rfl (HLK.out _ (And.right ‹_›)) ?_) | (with_reducible rw [HLK.out _ (And.right ‹_›)]) | (go_at_call 98; refine (HCL.out _ (And.right ‹_›)).mono ?_; rintro e w8 ⟨v8, rfl, o8, hb8⟩; obtain ⟨a8, n8, c8, rfl⟩ := o8.form; have hB8 : Below wr.heap.size wr w8 := (by first | exact ((Below.refl _ wr).drew).trans hb8 | exact (((Below.refl _ wr).alloc (Nat.le_refl _) _).drew).trans (hb8.mono (al_le wr _)) | exact (((Below.refl _ wr).drew).alloc (Nat.le_refl _) _).trans (hb8.mono (al_le wr.drew _))); have o8' : Own 3 wr.heap.size w8 (.slice a8 n8 c8) (rx A x) := (by first | exact o8 | exact o8.mono (al_le wr _) | exact o8.mono (al_le wr.drew _))) | (refine step_app1 (by rfl) _ _ rfl wr.heap.size (.slice a8 n8 c8) (rx A x) ch _ rfl rfl (o8'.alloc _) (cell_new1 _ _ _) hlr (size_alloc_le hB8.size _) ?_; intro v9 w9 o9 hg9; obtain ⟨a9, n9, c9, rfl⟩ := o9.form; have hB9 : Below wr.heap.size wr w9 := (hB8.alloc hB8.size _).grown hg9 (size_alloc_le hB8.size _) o8'.row; have hS9 := And.intro ((hB9.cell (cell_lt y0)).trans y0) (IKeep.of hB9 hnr)) | (refine step_app1 (by rfl) _ _ rfl wr.heap.size (.slice a8 n8 c8) (rx A x) ch _ rfl rfl o8' (below_keeps hb8 _ _ (cell_new1 _ _ _)) hlr hB8.size ?_; intro v9 w9 o9 hg9; obtain ⟨a9, n9, c9, rfl⟩ := o9.form; have hB9 : Below wr.heap.size wr w9 := hB8.grown hg9 hB8.size o8'.row; have hS9 := And.intro ((hB9.cell (cell_lt y0)).trans y0) (IKeep.of hB9 hnr)) | (go_at_call 178; refine (HEA.out _ 0 a9 n9 c9 w9 ((HB.out.trans HK1.out.below).trans (hB9.mono hnr)) (by rw [HYR.out]; exact own_yv o9) (hJ _ _ _ HJJ.out hB9) HNN.out).mono ?_; rintro e w10 ⟨t10, rfl, h10, hk10⟩; (have hS10 := And.intro ((hk10.below.cell (p := ⟨B x, 0, none⟩) hBx).trans hS9.1) (hS9.2.trans hk10))))
          all_goals
            rcases h10 with ⟨rfl, hj10⟩ | ⟨rfl, q, hq, hx10⟩
            · gi_wp2
              go_roundw
              case rel => exact ⟨j + 1, by go_num, by omega, by rw [HFS.out, ← List.append_assoc]; exact hj10, HK1.out.trans hS10.2, HK3.out.trans hS10.2⟩
              case measure => simp [intOf]; omega
            · gi_wp2
              go_ret
              exact ⟨false, rfl, .inr ⟨rfl, _, HFP.out q hq, by rw [← List.append_assoc, ← List.append_assoc]; exact hx10⟩, HK1.out.trans hS10.2⟩
        · obtain rfl : j = nk := by omega
          gi_wp2
          go_ret
          refine ⟨true, rfl, .inl ⟨rfl, ?_⟩, HK1.out⟩
          have := HJJ.out
          rw [List.take_of_length_le (by rw [HNK.out]; exact Nat.le_refl _), List.append_assoc] at this
          rw [HBN.out]
          exact this
    | true =>
      refine callsIn_of_wp Try.func178 rfl trivial ?_ rfl
      simp only [Try.ntmps178, List.size_toArray, List.length_cons, List.length_nil, Nat.reduceAdd, Nat.reduceSub, Array.replicate_succ, Array.replicate_zero, List.push_toArray, List.append_toArray, List.nil_append, List.cons_append]
      have HVW := Lib.hid (show IR W0.heap.size W a (rx A x) ∧ (rx A x).length = m ∧ (a = none → m = 0) from by
        obtain ⟨a', n', c', e, h1, -, -, h4, h5⟩ := hv
        cases e
        exact ⟨h5, h1, h4⟩)
      have hmL0 : (rx A x).length ≤ L := hL _ (rx_memT hx)
      have HCL0 := Lib.hid (slices_clone a m c (rx A x) W HVW.out.1.1 HVW.out.2.1 (by have := HVW.out.2.1; omega) HVW.out.2.2)
      gi_wp2
      refine ⟨trivial, wide_d _, (callsIn_wide.2 HCL0.out).mono ?_⟩
      rintro e W8 ⟨v8, rfl, o8, hb8⟩
      obtain ⟨a8, n8, c8, rfl⟩ := o8.form
      obtain ⟨fn, tmps, assign, body', hy, hR⟩ := hY (n - 1) pre (.slice a8 n8 c8) (rx A x) W8 (hJ _ _ _ hj hb8) (by have h1 : 0 < (begS S (rx A x)).length := (by rw [begS_node hI hS hx, hbb]; simp); omega) (own_yv o8)
      have hbs0 := hb.size
      have hk8 := IKeep.of hb8 hbs0
      have HR := Lib.hid hR
      clear hR HCL0 HVW o8 hj hHW hmL0
      gi_wp2
      refine ⟨wide_d _, HR.out.mono ?_⟩
      rintro e W1 ⟨t, rfl, ht, hk1⟩
      have HKA := Lib.hid (hk8.trans hk1)
      clear HR hy hk8 hk1 hb8 y0 y1
      rcases ht with ⟨rfl, hj1⟩ | ⟨rfl, hx1⟩
      · have hbA : W0.heap.size ≤ W1.heap.size := Nat.le_trans hbs0 HKA.out.below.size
        have HO := Lib.hid (trie_order W1.heap.size W0.heap.size bs A S B M _ _ hI hA x hx W1 (hH.kept (hb.trans HKA.out.below)) rfl)
        gi_wp2
        refine ⟨trivial, wide_d _, (callsIn_wide.2 HO.out).mono ?_⟩
        rintro e W2 ⟨a2, c2, rfl, hir2, hc2, hb2⟩
        have hbs := hb.size
        have hk2 : IKeep W0.heap.size W W2 := HKA.out.trans (IKeep.of hb2 hbA)
        have hj2 : J (pre ++ [rx A x]) W2 := hJ _ _ _ hj1 hb2
        have HK2 := Lib.hid hk2; have HI2 := Lib.hid hir2; have HJ2 := Lib.hid hj2; have HV := Lib.hid hv; have HB := Lib.hid hb; have HC2 := Lib.hid hc2
        clear hir2 hj2 hk2 hb2 hv hb hc2 hj1 HO
        have hbn := begS_node hI hS hx
        rw [hbb] at hbn
        simp only [if_true, Bool.false_eq_true, if_false] at hbn
        obtain ⟨ks, hks⟩ : ∃ ks, ordT A x = ks := ⟨_, rfl⟩
        rw [hks] at HI2 HC2 hbn ⊢
        have HBN := Lib.hid hbn
        clear hbn hbb
        obtain ⟨nk, hnk⟩ : ∃ nk, ks.length = nk := ⟨_, rfl⟩
        have HKS := Lib.hid hks; have HNK := Lib.hid hnk
        rw [hnk] at HC2 ⊢
        have hnk2 : nk ≤ 100000 := by
          rw [← hnk, ← hks]; unfold ordT; rw [sortI_len]; unfold keysT; rw [List.length_map]; exact Nat.le_trans (kidsT_len A x) hA
        clear hks hnk
        gi_wp2
        gi_loopw [23] (fun i wr => ∃ j : Nat, i = .int .i64 (j : Int) ∧ j ≤ nk ∧ J ((pre ++ [rx A x]) ++ (ks.take j).flatMap fun c => begS S (rx A x ++ [c])) wr ∧ IKeep W0.heap.size W wr ∧ IKeep W0.heap.size W2 wr) (fun i _ => nk - (intOf i).toNat)
        case atStart => exact ⟨0, rfl, by omega, by simpa using HJ2.out, HK2.out, IKeep.refl _ _⟩
        case round =>
          obtain ⟨j, rfl, hj, hJJ, hk1, hk2⟩ := hrel
          have HJJ := Lib.hid hJJ; have HK1 := Lib.hid hk1; have HK3 := Lib.hid hk2
          clear hJJ hk1 hk2
          by_cases hlt : j < nk
          · have hjl : j < ks.length := by rw [HNK.out]; exact hlt
            have hir := HI2.out.keep HK3.out
            obtain ⟨b1, o1, rfl, hcc⟩ := hir.1.at hjl
            have cv := hcc j hjl
            have hi0 : (0 : Int) ≤ (j : Int) := by omega
            have hin : (j : Int) < (nk : Int) := by omega
            have hHr := hH.kept (HB.out.trans HK1.out.below)
            obtain ⟨y0, -, -, -, -, -⟩ := (hHr.blk x hx).three
            have hnr : W0.heap.size ≤ wr.heap.size := Nat.le_trans hbs HK1.out.below.size
            obtain ⟨ch, hch⟩ : ∃ ch, ix ks j = ch := ⟨_, rfl⟩
            rw [hch] at cv
            have hcm : ch ∈ ordT A x := by rw [HKS.out, ← hch, ix_eq hjl]; exact List.getElem_mem hjl
            obtain ⟨y, hy, hyk⟩ := mem_ordT.1 hcm
            obtain ⟨hyl, hyr⟩ := mem_kidsT.1 hy
            rw [hyk] at hyr
            have HLK := Lib.hid (fun (w' : World) (hk' : IKeep W0.heap.size wr w') => show (Instr.lookup 212 (.map (M x)) (.int .i64 ch) false).run Try.prog w' = .ok (.pointer (some ⟨B y, 0, none⟩)) w' from by
              obtain ⟨o, ho, hlk⟩ := (hH.kept ((HB.out.trans HK1.out.below).trans hk'.below)).look hI hx ch
              rcases ho with ⟨hno, -⟩ | ⟨z, hz, hrz, rfl⟩
              · exact absurd (hyr ▸ rx_memT hyl) hno
              · rw [rx_inj hI.nodup hyl hz (hyr.trans hrz.symm)]; exact hlk)
            have HV3 := Lib.hid (fun (w' : World) (hk' : IKeep W0.heap.size wr w') => show IR W0.heap.size w' a (rx A x) from by
              obtain ⟨a', n', c', e, -, -, -, -, h⟩ := HV.out
              cases e
              exact (h.keep HK1.out).keep hk')
            have HVL := Lib.hid (show (rx A x).length = m ∧ m ≤ c ∧ c ≤ 9223372036854775807 ∧ (a = none → m = 0) from by
              obtain ⟨a', n', c', e, h1, h2, h3, h4, -⟩ := HV.out
              cases e
              exact ⟨h1, h2, h3, h4⟩)
            have hmL : (rx A x).length ≤ L := hL _ (rx_memT hx)
            have HCL := Lib.hid (fun (w' : World) (hk' : IKeep W0.heap.size wr w') => slices_clone a m c (rx A x) w' (HV3.out w' hk').1 HVL.out.1 (by have := HVL.out.1; omega) HVL.out.2.2.2)
            have hyL : (rx A y).length = (rx A x).length + 1 := by rw [hyr]; simp
            have HEA := Lib.hid (fun (P : List (List Int)) (n' : Nat) (a' : Option Addr) (m' c' : Nat) (w' : World) (hb' : Below W0.heap.size W0 w') (hv' : YV W0.heap.size w' (.slice a' m' c') (rx A y)) (hj' : J P w') (hN' : P.length + (begS S (rx A y)).length ≤ N) => callsIn_wide.1 (trie_each W0 l N J Jx hJ hY bs A S B M hH hI hS hA L hL hL2 k y n' a' m' c' P w' (by omega) hyl hb' hv' hj' hN'))
            have hlr : (rx A x).length < 17592186044416 := by omega
            have HFS := Lib.hid (show ((ks.take (j + 1)).flatMap fun c => begS S (rx A x ++ [c])) = ((ks.take j).flatMap fun c => begS S (rx A x ++ [c])) ++ begS S (rx A y) by
              rw [take_succ_ix hjl, List.flatMap_append, hch, hyr]; simp)
            have HFP := Lib.hid (show ∀ q, q <+: begS S (rx A y) → ([rx A x] ++ (((ks.take j).flatMap fun c => begS S (rx A x ++ [c])) ++ q)) <+: begS S (rx A x) from fun q hq => by
              rw [HBN.out]
              refine (List.prefix_append_right_inj _).2 ?_
              have h1 : (ks.flatMap fun c => begS S (rx A x ++ [c])) = ((ks.take (j + 1)).flatMap fun c => begS S (rx A x ++ [c])) ++ (ks.drop (j + 1)).flatMap fun c => begS S (rx A x ++ [c]) := by
                rw [← List.flatMap_append, List.take_append_drop]
              rw [h1, HFS.out]
              exact ((List.prefix_append_right_inj _).2 hq).trans (List.prefix_append _ _))
            have HNN := Lib.hid (show ((pre ++ [rx A x]) ++ (ks.take j).flatMap fun c => begS S (rx A x ++ [c])).length + (begS S (rx A y)).length ≤ N from by
              have h1 := (HFP.out _ (List.prefix_refl _)).length_le
              simp only [List.length_append] at h1 ⊢
              omega)
            have HYR := Lib.hid hyr
            clear hyr hyk hy hcm hch hcc hHr hir hmL
            gi_wp2
            refine wpIn_wide.2 ?_
            have hBx : B x < W0.heap.size := (hH.blk x hx).lt
            go_region_held3 (fun w' => w'.cell? ⟨B x, 0, none⟩ = some (.map (M x)) ∧ IKeep W0.heap.size wr w') (first | exact ⟨y0, IKeep.of (Below.refl _ _).drew hnr⟩ | (with_reducible assumption) | exact keepT ‹_› hnr (below1 _ _) | exact keepT ‹_› hnr ‹_›) (first | (refine step_lookQ rfl _ _ rfl (.map (M x)) (.int .i64 ch) rfl rfl (HLK.out _ (And.right ‹_›)) ?_) | (with_reducible rw [HLK.out _ (And.right ‹_›)]) | (go_at_call 98; refine (HCL.out _ (And.right ‹_›)).mono ?_; rintro e w8 ⟨v8, rfl, o8, hb8⟩; obtain ⟨a8, n8, c8, rfl⟩ := o8.form; have hB8 : Below wr.heap.size wr w8 := (by first | exact ((Below.refl _ wr).drew).trans hb8 | exact (((Below.refl _ wr).alloc (Nat.le_refl _) _).drew).trans (hb8.mono (al_le wr _)) | exact (((Below.refl _ wr).drew).alloc (Nat.le_refl _) _).trans (hb8.mono (al_le wr.drew _))); have o8' : Own 3 wr.heap.size w8 (.slice a8 n8 c8) (rx A x) := (by first | exact o8 | exact o8.mono (al_le wr _) | exact o8.mono (al_le wr.drew _))) | (refine step_app1 (by rfl) _ _ rfl wr.heap.size (.slice a8 n8 c8) (rx A x) ch _ rfl rfl (o8'.alloc _) (cell_new1 _ _ _) hlr (size_alloc_le hB8.size _) ?_; intro v9 w9 o9 hg9; obtain ⟨a9, n9, c9, rfl⟩ := o9.form; have hB9 : Below wr.heap.size wr w9 := (hB8.alloc hB8.size _).grown hg9 (size_alloc_le hB8.size _) o8'.row; have hS9 := And.intro ((hB9.cell (cell_lt y0)).trans y0) (IKeep.of hB9 hnr)) | (refine step_app1 (by rfl) _ _ rfl wr.heap.size (.slice a8 n8 c8) (rx A x) ch _ rfl rfl o8' (below_keeps hb8 _ _ (cell_new1 _ _ _)) hlr hB8.size ?_; intro v9 w9 o9 hg9; obtain ⟨a9, n9, c9, rfl⟩ := o9.form; have hB9 : Below wr.heap.size wr w9 := hB8.grown hg9 hB8.size o8'.row; have hS9 := And.intro ((hB9.cell (cell_lt y0)).trans y0) (IKeep.of hB9 hnr)) | (go_at_call 178; refine (HEA.out _ 0 a9 n9 c9 w9 ((HB.out.trans HK1.out.below).trans (hB9.mono hnr)) (by rw [HYR.out]; exact own_yv o9) (hJ _ _ _ HJJ.out hB9) HNN.out).mono ?_; rintro e w10 ⟨t10, rfl, h10, hk10⟩; (have hS10 := And.intro ((hk10.below.cell (p := ⟨B x, 0, none⟩) hBx).trans hS9.1) (hS9.2.trans hk10))))
            all_goals
              rcases h10 with ⟨rfl, hj10⟩ | ⟨rfl, q, hq, hx10⟩
              · gi_wp2
                go_roundw
                case rel => exact ⟨j + 1, by go_num, by omega, by rw [HFS.out, ← List.append_assoc]; exact hj10, HK1.out.trans hS10.2, HK3.out.trans hS10.2⟩
                case measure => simp [intOf]; omega
              · gi_wp2
                go_ret
                exact ⟨false, rfl, .inr ⟨rfl, _, HFP.out q hq, by rw [← List.append_assoc, ← List.append_assoc]; exact hx10⟩, HK1.out.trans hS10.2⟩
          · obtain rfl : j = nk := by omega
            gi_wp2
            go_ret
            refine ⟨true, rfl, .inl ⟨rfl, ?_⟩, HK1.out⟩
            have := HJJ.out
            rw [List.take_of_length_le (by rw [HNK.out]; exact Nat.le_refl _), List.append_assoc] at this
            rw [HBN.out]
            exact this

      · gi_wp2
        go_ret
        refine ⟨false, rfl, .inr ⟨rfl, [rx A x], ?_, hx1⟩, HKA.out⟩
        rw [begS_node hI hS hx, hbb]
        exact List.prefix_append _ _

end Go.Proofs.Ytmipnikhgihcpaa
