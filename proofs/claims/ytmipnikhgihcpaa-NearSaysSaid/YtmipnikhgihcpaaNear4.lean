/- Contract of (*near.Tree).put: the walk. -/
import Derived.Test.YtmipnikhgihcpaaNear3
namespace Go.Proofs.Ytmipnikhgihcpaa
open Go.RowKit
set_option linter.unusedVariables false
set_option linter.unusedSimpArgs false

def PutPost (base : Nat) (A : List Nd) (B : Nat → Nat) (wd : List Int) (w : World) (e : Ending) (w' : World) : Prop :=
  e = .returned (.tuple #[]) ∧ ∃ (p : Nat) (B' M' : Nat → Nat), p < A.length ∧ Inv (A ++ [⟨wd, p, dst (nd A p).wd wd⟩]) ∧ ArH w' base (A ++ [⟨wd, p, dst (nd A p).wd wd⟩]) B' M' ∧ B' 0 = B 0 ∧ Below base w w'
theorem PutPost.after {base : Nat} {A : List Nd} {B : Nat → Nat} {wd : List Int} {w w1 : World} {e : Ending} {w' : World} (h : PutPost base A B wd w1 e w') (hb : Below base w w1) : PutPost base A B wd w e w' := by
  obtain ⟨h0, p, B', M', h1, h2, h3, h4, h5⟩ := h
  exact ⟨h0, p, B', M', h1, h2, h3, h4, hb.trans h5⟩

set_option maxRecDepth 100000 in
set_option maxHeartbeats 1000000 in
theorem near_put (base : Nat) (A : List Nd) (B M : Nat → Nat) (hI : Inv A) (wd : List Int) (a : Option Addr) (m c : Nat) (hm : m ≤ 24) (hA : ∀ x, x < A.length → (nd A x).wd.length ≤ 24) : ∀ (k i : Nat), A.length - i ≤ k → i < A.length → OnPath A i wd → ∀ w : World, ArH w base A B M → Own 3 base w (.slice a m c) wd → base ≤ w.heap.size →
    Calls Try.prog 129 #[.pointer (some ⟨B i, 0, none⟩), .slice a m c, .int .i64 (A.length : Int)] w (PutPost base A B wd w)
  | 0, i, hk, hi, hO, w, hH, hsv, hbase => by omega
  | k + 1, i, hk, hi, hO, w, hH, hsv, hbase => by
    obtain ⟨si, hB, hsi⟩ := hH.blk i hi
    obtain ⟨a', m', c', rfl⟩ := hsi.form
    obtain ⟨e1, hT, -⟩ := hsi.get
    obtain ⟨e2, hW, -⟩ := hsv.get
    obtain ⟨y0, y1, y2, -, -, -⟩ := hB.three
    have HF := Lib.hid (near_far a' a m' m c' c (nd A i).wd wd w hT hW e1 e2 (by rw [← e1]; have := hA i hi; omega) (by omega))
    have HO := Lib.hid hO; have HH := Lib.hid hH; have HSV := Lib.hid hsv; have HB := Lib.hid hB
    have hd := dst_top (nd A i).wd wd
    have hd2 : dst (nd A i).wd wd ≤ 1000 := by have := hA i hi; omega
    have hmm := @run_makeMap Try.prog
    clear e1 e2 hT hW hO hH hsv hsi hB hd
    obtain ⟨d, hd⟩ : ∃ d, dst (nd A i).wd wd = d := ⟨_, rfl⟩
    rw [hd] at HF hd2
    have HD := Lib.hid hd
    clear hd
    go_enter Try.func129, Try.ntmps129
    go_upto_region 1 with (go_at_call 67; go_loud (refine (HF.out).mono ?_; rintro e w3 ⟨rfl, hb3⟩))
    have hH3 := HH.out.kept hb3
    have hB3 := HB.out.below hb3 HB.out.lt
    have hsv3 := HSV.out.kept hb3
    have hM3 := hH3.map i hi
    clear y0 y1 y2
    obtain ⟨y0, y1, y2, -, -, -⟩ := hB3.three
    have hbw : Below base w w3 := hb3.mono hbase
    have hbase3 : base ≤ w3.heap.size := Nat.le_trans hbase hbw.size
    by_cases hn : ∀ x ∈ kidsOf A i, (nd A x).key ≠ d
    · have hlk := look_no hM3 (kidE_none hn)
      have hbl := below2 w3 (.map #[] 0) (.cells #[.slice a m c, .int .i64 (A.length : Int), .map (some w3.heap.size)] 206)
      obtain ⟨w4, hrun, hM4, hg4⟩ := ins_newT (w := (w3.alloc (.map #[] 0)).alloc (.cells #[.slice a m c, .int .i64 (A.length : Int), .map (some w3.heap.size)] 206)) (d : Int) (.pointer (some ⟨w3.heap.size + 1, 0, none⟩)) (hM3.below hbl) (kidE_none (B := B) hn)
      have HP := Lib.hid (hH3.put hI (i := i) (d := d) hi hbase3 hsv3 hg4 hM4)
      have HV := Lib.hid (hI.put hi HO.out (by rw [HD.out]; exact hn))
      have HBB := Lib.hid (show Below base w w4 from hbw.trans ((hbl.mono hbase3).grown hg4 (Nat.le_trans hbase3 (hbl.mono hbase3).size) (fun q hq => by simp at hq; rw [← hq]; exact (hH3.ge i hi).2)))
      clear hM4 hg4 hn hM3 hbl
      go_wp2
      go_end0
      refine ⟨rfl, i, upd B A.length (w3.heap.size + 1), upd M A.length w3.heap.size, hi, by rw [HD.out] at *; exact HV.out, ?_, upd_old (by omega), HBB.out⟩
      rw [HD.out]; exact HP.out
    · have hx : ∃ x ∈ kidsOf A i, (nd A x).key = d := by
        apply Classical.byContradiction
        intro h
        exact hn fun x hx e => h ⟨x, hx, e⟩
      obtain ⟨x, hx, hxd⟩ := hx
      obtain ⟨g1, g2, g3⟩ := mem_kids.1 hx
      have hip := hI.par x g2 g1
      rw [g3] at hip
      obtain ⟨q, hq⟩ := List.getElem?_of_mem hx
      have hlk := look_yes (k := (d : Int)) hM3 (kidE_keys hI B i) (kidE_mem.2 ⟨q, x, hq, rfl⟩) (by rw [hxd])
      dsimp only at hlk
      have IH := Lib.hid (near_put base A B M hI wd a m c hm hA k x (by omega) g1 (HO.out.down hx (by rw [hxd, HD.out])) w3 hH3 hsv3 hbase3)
      clear hn hxd hq g3
      go_wp2_with (go_at_call 129; go_loud (refine (IH.out).mono ?_; intro e w5 h5; have he := h5.1; subst he; have H5 := Lib.hid h5; clear h5))
      go_end0
      exact H5.out.after hbw

end Go.Proofs.Ytmipnikhgihcpaa
