/- Contract of slices.Insert at lists of lists: one list is put into a row of the call's own. -/
import Derived.Test.YtmipnikhgihcpaaCut
import Derived.Test.YtmipnikhgihcpaaVRow
import Derived.Lib.Overlaps
import Derived.Lib.AppendZerosOnto
import Derived.Laws.Externs
import Derived.Laws.CopyOwn
namespace Go.Proofs.Ytmipnikhgihcpaa
open Go.RowKit
set_option linter.unusedVariables false
set_option linter.unusedSimpArgs false

theorem vown_parts {e : TypeId} {base : Nat} {w : World} {v : Value} {us : List Value} (h : VOwn e base w v us) (h0 : 0 < us.length) :
    ∃ g cap cur, v = .slice (some ⟨g, 0, none⟩) us.length cap ∧ base ≤ g ∧ Blk w g cur e ∧ us.length ≤ cap ∧ cap ≤ maxLen ∧ cur.size = cap ∧ cur.toList.take us.length = us := by
  rcases h.2 with ⟨rfl, h1⟩ | ⟨g, cap, cur, rfl, hb, hg, h1, h2, h3, h4⟩
  · omega
  · exact ⟨g, cap, cur, rfl, hb, hg, h1, h2, by simpa using h3, by simpa using h4⟩
theorem vown_mk {e : TypeId} {base g cap : Nat} {w : World} {cur : Array Value} {us : List Value} (n : Nat) (hn : us.length = n) (hb : base ≤ g) (hg : Blk w g cur e) (h1 : n ≤ cap) (h2 : cap ≤ maxLen) (h3 : cur.size = cap) (h4 : cur.toList.take n = us) :
    VOwn e base w (.slice (some ⟨g, 0, none⟩) n cap) us := by
  subst hn
  exact ⟨by simp, .inr ⟨g, cap, cur, rfl, hb, hg, h1, h2, by simpa using h3, by simpa using h4⟩⟩
/-- two copies that part a row -/
theorem splice_two {Z us : List Value} {u : Value} {k n : Nat} (hk : k ≤ n) (hu : us.length = n) (hZ : n + 1 ≤ Z.length) (hp : Z.take k = us.take k) :
    (splice (splice Z (k + 1) (us.drop k)) k [u]).take (n + 1) = us.take k ++ u :: us.drop k ∧ (splice (splice Z k [u]) (k + 1) (us.drop k)).take (n + 1) = us.take k ++ u :: us.drop k := by
  have l1 : (us.drop k).length = n - k := by rw [List.length_drop, hu]
  have l2 : (Z.take k).length = k := by rw [List.length_take]; omega
  have l4 : (us.take k).length = k := by rw [List.length_take]; omega
  have l3 : (Z.take (k + 1)).length = k + 1 := by rw [List.length_take]; omega
  constructor
  · have e1 : ∀ X : List Value, (Z.take (k + 1) ++ X).take k = us.take k := fun X => by
      rw [List.take_append_of_le_length (by rw [l3]; omega), List.take_take, Nat.min_eq_left (by omega), hp]
    have e2 : ∀ X : List Value, (Z.take (k + 1) ++ X).drop (k + [u].length) = X := fun X => List.drop_left' (by rw [l3]; rfl)
    unfold splice
    rw [e1, e2, List.take_append, l4, List.take_of_length_le (by rw [l4]; omega)]
    congr 1
    rw [← List.append_assoc]
    exact List.take_left' (by rw [List.length_append, l1]; simp; omega)
  · unfold splice
    have l5 : (us.take k ++ ([u] ++ Z.drop (k + [u].length))).take (k + 1) = us.take k ++ [u] := by
      rw [List.take_append, l4, List.take_of_length_le (by rw [l4]; omega)]
      congr 1
      exact List.take_left' (by simp)
    rw [hp, l5, List.append_assoc, List.take_append, l4, List.take_of_length_le (by rw [l4]; omega)]
    congr 1
    rw [← List.append_assoc]
    exact List.take_left' (by rw [List.length_append, l1]; simp; omega)

set_option maxHeartbeats 400000 in
set_option maxRecDepth 100000 in
theorem ins_end (base : Nat) (v : Value) (us : List Value) (a1 : Option Addr) (n1 c1 vb n : Nat) (w : World) (h : VOwn 22 base w v us) (hn : us.length = n) (hbig : n ≤ 1000000) (hv : w.cell? ⟨vb, 0, none⟩ = some (.slice a1 n1 c1)) (hb : base ≤ w.heap.size) :
    Calls Try.prog 136 #[v, .int .i64 (n : Int), .slice (some ⟨vb, 0, none⟩) 1 1] w fun e w' => ∃ v', e = .returned v' ∧ VOwn 22 base w' v' (us ++ [.slice a1 n1 c1]) ∧ Below base w w' := by
  obtain ⟨a, m, c, rfl⟩ := h.form
  have hm := h.vs.get.1
  have hmc := h.vs.get.2.1
  have hc := h.vs.get.2.2.1
  obtain rfl : n = m := by omega
  have HN := Lib.hid hn; have H := Lib.hid h
  have hV : Vals w (some ⟨vb, 0, none⟩) [.slice a1 n1 c1] := .inr ⟨vb, 0, rfl, fun i hi => by
    obtain rfl : i = 0 := by simpa using hi
    exact hv⟩
  have HV := Lib.hid hV
  have HS : Sls [.slice a1 n1 c1] := fun i hi => by
    obtain rfl : i = 0 := by simpa using hi
    exact ⟨_, _, _, rfl⟩
  have HS := Lib.hid HS
  have hrun := fun (w : World) => Lib.hid hn
  have h0 := fun e => h.vs.get.2.2.2.2 e
  clear hn h hm hV hv hrun
  go_enter Try.func136, Try.ntmps136
  go_wp2_with (at_builtin; refine vapp rfl _ _ rfl base _ us [.slice a1 n1 c1] ⟨vb, 0, none⟩ 1 1 rfl rfl H.out HV.out HS.out rfl (by rw [HN.out]; omega) hb ?_; intro v4 w4 o4 hg4)
  all_goals
    go_ret
    exact ⟨_, rfl, o4, (Below.refl _ _).grown hg4 hb H.out.row⟩

/-- one row alone has changed -/
structure Only (g : Nat) (w w' : World) : Prop where
  os : w'.os = w.os
  tape : w'.tape = w.tape
  output : w'.output = w.output
  size : w'.heap.size = w.heap.size
  block : ∀ k, k ≠ g → w'.heap[k]? = w.heap[k]?
theorem Only.refl (g : Nat) (w : World) : Only g w w := ⟨rfl, rfl, rfl, rfl, fun _ _ => rfl⟩
theorem Only.drew {g : Nat} {w w' : World} (h : Only g w.drew w') : Only g w w' := ⟨h.os, h.tape, h.output, h.size, h.block⟩
theorem Only.below {g B : Nat} {w w' : World} (h : Only g w w') (hB : B ≤ g) : Below B w w' := ⟨h.os, h.tape, h.output, Nat.le_of_eq h.size.symm, fun k hk => h.block k (by omega)⟩
theorem Only.blk {g B : Nat} {w w' : World} {cs : Array Value} {e : TypeId} (h : Only g w w') (hB : Blk w B cs e) (hne : B ≠ g) : Blk w' B cs e := by
  unfold Blk; rw [h.block B hne]; exact hB
theorem only_setRow (w : World) (g : Nat) (cs : Array Value) : Only g w (w.setRow g cs) := ⟨rfl, rfl, rfl, by simp [World.setRow], fun k hk => setRow_other w g k cs hk⟩
theorem wp_copy_row {o : Oper} {a : Act} {w : World} {K : Act → World → Prop} {Q : Exit → Act → World → Prop} (d s : Operand) (dT sT : TypeId)
    (ho : o.op = .call { callee := .builtin .copy, args := #[d, s], argTypes := #[dT, sT] }) (elem : TypeId) (hu : Try.prog.underlying dT = some (.slice elem)) (hsz : (Try.prog.info? elem).map (·.size) = some 1)
    (g off dLen dCap : Nat) (ad : Addr) (sLen sCap : Nat) (hd : a.eval d = .slice (some ⟨g, off, none⟩) dLen dCap) (hs : a.eval s = .slice (some ad) sLen sCap)
    (cur : List Value) (t : TypeId) (hg : Blk w g cur.toArray t) (cs : List Value) (hn : cs.length = Nat.min sLen dLen)
    (hsrc : ∀ j v, cs[j]? = some v → w.cell? (ad.add j) = some v) (hfit : off + cs.length ≤ cur.length) (h1 : ∀ v ∈ cs, v.oneCell' = true)
    (h : ∀ w', Hid (Blk w' g (splice cur off cs).toArray t) → Only g w w' → K (a.put o.dst (goInt cs.length)) w') : o.wp Try.prog a w K Q := by
  have hrun := run_copy_row (P := Try.prog) w dT sT o.type elem g off dLen dCap ad sLen sCap cur.toArray t cs hu hsz hg hn hsrc (by simpa using hfit) h1
  unfold Oper.wp
  simp [execOp, ho, resolve, invoke, builtin, hd, hs, hrun, Result.andThen]
  exact h _ (Lib.hid (show _ = _ by simpa [splice] using setRow_heap w g _ _ t _ hg)) (only_setRow _ _ _)
theorem step_copy_row {ops : Array Oper} {o : Oper} {a : Act} {w : World} {K : Act → World → Prop} {Q : Exit → Act → World → Prop} {E : Prop} (hgd : o.guard = none) (d s : Operand) (dT sT : TypeId)
    (ho : o.op = .call { callee := .builtin .copy, args := #[d, s], argTypes := #[dT, sT] }) (elem : TypeId) (hu : Try.prog.underlying dT = some (.slice elem)) (hsz : (Try.prog.info? elem).map (·.size) = some 1)
    (g off dLen dCap : Nat) (ad : Addr) (sLen sCap : Nat) (hd : a.eval d = .slice (some ⟨g, off, none⟩) dLen dCap) (hs : a.eval s = .slice (some ad) sLen sCap)
    (cur : List Value) (t : TypeId) (hg : Blk w g cur.toArray t) (cs : List Value) (hn : cs.length = Nat.min sLen dLen)
    (hsrc : ∀ j v, cs[j]? = some v → w.cell? (ad.add j) = some v) (hfit : off + cs.length ≤ cur.length) (h1 : ∀ v ∈ cs, v.oneCell' = true)
    (h : ∀ w', Hid (Blk w' g (splice cur off cs).toArray t) → Only g w w' → K (a.put o.dst (goInt cs.length)) w') :
    if Region.wanted o (yielded ops a.tmps) = true then Oper.wp Try.prog o a w K Q else E := by
  have hw : Region.wanted o (yielded ops a.tmps) = true := by simp [Region.wanted, hgd]
  rw [if_pos hw]
  exact wp_copy_row d s dT sT ho elem hu hsz g off dLen dCap ad sLen sCap hd hs cur t hg cs hn hsrc hfit h1 h
theorem list_copy_row {ops : Array Oper} {rest : List Oper} {o : Oper} {a : Act} {w : World} {Q : Exit → Act → World → Prop} (hgd : o.guard = none) (d s : Operand) (dT sT : TypeId)
    (ho : o.op = .call { callee := .builtin .copy, args := #[d, s], argTypes := #[dT, sT] }) (elem : TypeId) (hu : Try.prog.underlying dT = some (.slice elem)) (hsz : (Try.prog.info? elem).map (·.size) = some 1)
    (g off dLen dCap : Nat) (ad : Addr) (sLen sCap : Nat) (hd : a.eval d = .slice (some ⟨g, off, none⟩) dLen dCap) (hs : a.eval s = .slice (some ad) sLen sCap)
    (cur : List Value) (t : TypeId) (hg : Blk w g cur.toArray t) (cs : List Value) (hn : cs.length = Nat.min sLen dLen)
    (hsrc : ∀ j v, cs[j]? = some v → w.cell? (ad.add j) = some v) (hfit : off + cs.length ≤ cur.length) (h1 : ∀ v ∈ cs, v.oneCell' = true)
    (h : ∀ w', Hid (Blk w' g (splice cur off cs).toArray t) → Only g w w' → wpList Try.prog ops Q rest (a.put o.dst (goInt cs.length)) w') : wpList Try.prog ops Q (o :: rest) a w :=
  wpList_plain hgd fun _ hK => wp_copy_row d s dT sT ho elem hu hsz g off dLen dCap ad sLen sCap hd hs cur t hg cs hn hsrc hfit h1 fun w' g1 g2 => hK _ _ (h w' g1 g2)
theorem below_dn1 (g : Nat) (w : World) : Below g w w.drew := ⟨rfl, rfl, rfl, Nat.le_refl _, fun _ _ => rfl⟩
theorem ov_false (w : World) (vb g o ca lb cb : Nat) (u : Value) (cur : Array Value) (hne : vb ≠ g) (hv : Blk w vb #[u] 22) (hg : Blk w g cur 22) (hc : cur.size ≠ 0) :
    (callFunc 175 #[.slice (some ⟨vb, 0, none⟩) 1 ca, .slice (some ⟨g, o, none⟩) lb cb]).run Try.prog w = .ok (.value (.bool false)) w := by
  have hz : ∀ w, (Go.sizeOf 22).run Try.prog w = .ok 1 w := fun w => by
    obtain ⟨i0, hi, hz0, hz1, hz2⟩ := info_parts info_sl
    simp [sizeOf, typeInfo, hi, hz1]
  rw [run_callFunc_extern Try.func175 (by kernel_rfl) (by kernel_rfl) (by kernel_rfl) (e := Extern.SlicesOverlaps.overlaps #[46, 46] #[4]) (by kernel_rfl),
    Lib.run_overlaps_apart w 46 4 22 Try.underlying46 1 hz ⟨vb, 0, none⟩ ⟨g, o, none⟩ 1 ca lb cb hne 22 22 1 cur.size (by simp [World.shape?, show w.heap[vb]? = _ from hv]) (by simp [World.shape?, show w.heap[g]? = _ from hg]) hc (hv.free 0) (hv.free 1)]
  rfl

set_option maxHeartbeats 400000 in
set_option maxRecDepth 100000 in
theorem ins_shift (g cap k n : Nat) (cur : Array Value) (us : List Value) (u : Value) (vb : Nat) (w : World) (hg : Blk w g cur 22) (hn : us.length = n) (hk : k < n) (hroom : n + 1 ≤ cap) (hcap : cap ≤ 9223372036854775807) (hcs : cur.size = cap) (htk : cur.toList.take n = us)
    (hv : Blk w vb #[u] 22) (hne : vb ≠ g) (hS : ∀ x ∈ us, x.oneCell' = true) (hu : u.oneCell' = true) :
    Calls Try.prog 136 #[.slice (some ⟨g, 0, none⟩) n cap, .int .i64 (k : Int), .slice (some ⟨vb, 0, none⟩) 1 1] w fun e w' => e = .returned (.slice (some ⟨g, 0, none⟩) (n + 1) cap) ∧ (∃ cur', Blk w' g cur' 22 ∧ cur'.size = cap ∧ cur'.toList.take (n + 1) = us.take k ++ u :: us.drop k) ∧ Below g w w' := by
  obtain ⟨i0, hi0, hz0, hz1, hz2⟩ := info_parts info_sl
  have hsz : (Try.prog.info? 22).map (·.size) = some 1 := by rw [hi0]; simp [hz1]
  have hov := fun o ca lb cb => ov_false w vb g o ca lb cb u cur hne hv hg (by omega)
  have hcl : cur.toList.length = cap := by simpa using hcs
  have hdl : (us.drop k).length = n - k := by rw [List.length_drop, hn]
  have hsp := splice_two (Z := cur.toList) (us := us) (u := u) (k := k) (n := n) (by omega) hn (by omega) (by rw [← htk, List.take_take, Nat.min_eq_left (by omega)])
  have hl2 : (splice (splice cur.toList (k + 1) (us.drop k)) k [u]).length = cap := by
    rw [length_splice _ _ _ (by rw [length_splice _ _ _ (by omega)]; simp; omega), length_splice _ _ _ (by omega), hcl]
  have hl1 : (splice cur.toList (k + 1) (us.drop k)).length = cap := by rw [length_splice _ _ _ (by omega), hcl]
  have hsrc1 : ∀ j v, (us.drop k)[j]? = some v → w.drew.cell? ((⟨g, k, none⟩ : Addr).add j) = some v := by
    intro j v hj
    rw [Addr.add_lit, hg.drew.cell, ← Array.getElem?_toList]
    rw [List.getElem?_drop, ← htk, List.getElem?_take] at hj
    split at hj
    · exact hj
    · cases hj
  have HG := Lib.hid hg; have HV := Lib.hid hv; have HSP := Lib.hid hsp; have HL1 := Lib.hid hl1; have HL2 := Lib.hid hl2; have HS1 := Lib.hid hsrc1; have HDL := Lib.hid hdl; have HCL := Lib.hid hcl; have HSZ := Lib.hid hsz; have HS := Lib.hid (show ∀ v ∈ us.drop k, v.oneCell' = true from fun v hv => hS v (List.mem_of_mem_drop hv))
  have hw1 : IntKind.i64.wrap ((k : Int) + 1) = (k : Int) + 1 := by rw [IntKind.wrap_i64]; omega
  have hb1 : (0 : Int) ≤ (k : Int) + 1 := by omega
  have htn : ((k : Int) + 1).toNat = k + 1 := by omega
  have hz2 : ¬ ((k : Int) = (n : Int)) := by omega
  have hin : (k : Int) ≤ (n : Int) := by omega
  have hb2 : ¬ (cap = k + 1) := by omega
  have hb4 : ¬ (cap = k) := by omega
  have hb3 : (k : Int) ≤ (n : Int) + 1 := by omega
  obtain ⟨ZZ, hZZ⟩ : ∃ ZZ, splice cur.toList (k + 1) (us.drop k) = ZZ := ⟨_, rfl⟩
  obtain ⟨DD, hDD⟩ : ∃ DD, us.drop k = DD := ⟨_, rfl⟩
  obtain ⟨CC, hCC⟩ : ∃ CC, cur.toList = CC := ⟨_, rfl⟩
  have HCC := Lib.hid hCC; have HDD := Lib.hid hDD; have HZZ := Lib.hid hZZ
  clear hg hv hsp hl1 hl2 hsrc1 hdl hcl hsz hcs htk hS hn hZZ hDD hCC hi0 hz0 hz1 hz2
  go_enter Try.func136, Try.ntmps136
  go_wp2_with (simp only [hov])
  go_region_law (refine step_copy_row rfl (.tmp 73) (.tmp 76) 46 46 rfl 22 Try.underlying46 HSZ.out g (k + 1) (n + 1 - (k + 1)) (cap - (k + 1)) ⟨g, k, none⟩ (n + 1 - k) (cap - k) (by simp [Act.eval, Act.put]) (by simp [Act.eval, Act.put]) CC 22 (by rw [← HCC.out]; exact HG.out) DD (by rw [← HDD.out, HDL.out]; simp only [Nat.min_def]; split <;> omega) (by rw [← HDD.out]; exact HS1.out) (by rw [← HCC.out, ← HDD.out, HDL.out, HCL.out]; omega) (by rw [← HDD.out]; exact HS.out) ?_; intro w4 hg4 ho4)
  have HV4 := Lib.hid (show Blk w4 vb #[u] 22 from ho4.blk HV.out hne)
  have HO4 := Lib.hid ho4
  clear ho4
  go_wp2_with ((with_reducible show wpList _ _ _ (⟨some 82, _, _, _, _, _⟩ :: _) _ _); go_loud (refine list_copy_row rfl (.tmp 80) (.tmp 81) 46 46 rfl 22 Try.underlying46 HSZ.out g k (n + 1 - k) (cap - k) ⟨vb, 0, none⟩ 1 1 rfl rfl (splice CC (k + 1) DD) 22 hg4.out [u] (by simp only [Nat.min_def, List.length_singleton]; split <;> omega) (fun j v hj => by match j with | 0 => (simp at hj; subst hj; exact HV4.out.cell 0) | j + 1 => simp at hj) (by rw [← HCC.out, ← HDD.out, HL1.out]; simp; omega) (fun v hv => by simp at hv; subst hv; exact hu) ?_); intro w6 hg6 ho6)

  go_ret
  refine ⟨rfl, ⟨_, hg6.out, by rw [← HCC.out, ← HDD.out]; simpa using HL2.out, by rw [← HCC.out, ← HDD.out]; simpa using HSP.out.1⟩, ?_⟩
  exact (HO4.out.drew.below (Nat.le_refl _)).trans (ho6.below (Nat.le_refl _))

set_option maxHeartbeats 4000000 in
set_option maxRecDepth 100000 in
theorem ins_grow (base g cap k n : Nat) (cur : Array Value) (us : List Value) (u : Value) (vb : Nat) (w : World) (hb : base ≤ w.heap.size) (hg : Blk w g cur 22) (hn : us.length = n) (hk : k < n) (hroom : cap < n + 1) (hnc : n ≤ cap) (hbig : n ≤ 1000000) (htk : cur.toList.take n = us) (hcs : cur.size = cap)
    (hv : Blk w vb #[u] 22) (hS : ∀ x ∈ us, x.oneCell' = true) (hu : u.oneCell' = true) :
    Calls Try.prog 136 #[.slice (some ⟨g, 0, none⟩) n cap, .int .i64 (k : Int), .slice (some ⟨vb, 0, none⟩) 1 1] w fun e w' => ∃ v', e = .returned v' ∧ VOwn 22 base w' v' (us.take k ++ u :: us.drop k) ∧ Below base w w' := by
  obtain ⟨i0, hi0, hz0, hz1, hz2⟩ := info_parts info_sl
  have hsz : (Try.prog.info? 22).map (·.size) = some 1 := by rw [hi0]; simp [hz1]
  have hcl : cur.toList.length = cap := by simpa using hcs
  have hdl : (us.drop k).length = n - k := by rw [List.length_drop, hn]
  have hsrc : ∀ j v, us[j]? = some v → w.cell? ⟨g, j, none⟩ = some v := by
    intro j v hj
    rw [hg.cell, ← Array.getElem?_toList]
    rw [← htk, List.getElem?_take] at hj
    split at hj
    · exact hj
    · cases hj
  have hold : (Builtin.firstCells i0.size k (.slice (some ⟨g, 0, none⟩) k cap)).run Try.prog w.drew = .ok (us.take k).toArray w.drew := by
    rw [hz1]
    exact run_firstCells_some w.drew 1 k ⟨g, 0, none⟩ k cap (us.take k) (by rw [List.length_take]; omega) (fun j v hj => by
      rw [Addr.add_lit, Nat.zero_add]
      rw [List.getElem?_take] at hj
      split at hj
      · exact hsrc j v hj
      · cases hj)
  obtain ⟨G, hG⟩ : ∃ G, G = w.heap.size := ⟨_, rfl⟩
  obtain ⟨C, hC⟩ : ∃ C, C = grownCap w (n + 1) cap 22 := ⟨_, rfl⟩
  have hik : k + (n + 1 - k) = n + 1 := by omega
  have hrz : ∀ ty, (Builtin.append_ #[46, 3] ty #[.slice (some ⟨g, 0, none⟩) k cap, .int .i64 ((n : Int) + 1 - (k : Int))]).run Try.prog w =
      .ok (.slice (some ⟨G, 0, none⟩) (n + 1) C) (w.drew.alloc (.cells ((us.take k).toArray ++ Builtin.zeroCells (Value.slice none 0 0).cells (n + 1 - k) ++ Builtin.zeroCells (Value.slice none 0 0).cells (C - (n + 1))) 22)) := fun ty => by
    have h := Lib.run_append_grow_zeros w 46 3 ty 22 i0 _ .i64 .i64 Try.underlying46 Try.underlying3 hi0 hz0 (some ⟨g, 0, none⟩) k cap (us.take k) hold (n + 1 - k) (by omega) (by omega) (by omega) (by omega) (by rw [hz2]; omega) (by rw [hz2, hik]; exact growslice_fits (by omega) (by omega))
    rw [hik] at h
    rw [show (n : Int) + 1 - (k : Int) = ((n + 1 - k : Nat) : Int) from by omega, hG, hC]
    exact h
  have hGn : n + 1 ≤ C := by rw [hC]; exact grownCap_ge w _ _ _
  have hG63 : C ≤ maxLen := by rw [hC]; exact grownCap_le_maxLen w (n + 1) cap 22 (by unfold maxLen; omega)
  obtain ⟨ROW, hROW⟩ : ∃ ROW : Array Value, ROW = (us.take k).toArray ++ Builtin.zeroCells (Value.slice none 0 0).cells (n + 1 - k) ++ Builtin.zeroCells (Value.slice none 0 0).cells (C - (n + 1)) := ⟨_, rfl⟩
  have hR1 : ROW.toList.length = C := by
    rw [hROW]
    simp [Builtin.zeroCells, Value.cells]
    omega
  have hR2 : ROW.toList.take k = us.take k := by
    rw [hROW]
    simp only [Array.toList_append, List.append_assoc]
    exact List.take_left' (by simp; omega)
  rw [← hROW] at hrz
  obtain ⟨W1, hW1⟩ : ∃ W1, W1 = w.drew.alloc (.cells ROW 22) := ⟨_, rfl⟩
  have hB1 : Blk W1 G ROW.toList.toArray 22 := by rw [hW1, hG]; exact Blk.new w.drew ROW _
  have hbl : Below w.heap.size w W1 := by
    have := below1 w.drew (.cells ROW 22)
    rw [hW1]
    exact ⟨this.os, this.tape, this.output, this.size, this.block⟩
  have hv1 := hv.below hbl hv.lt
  have hgl := hg.lt
  have hvl := hv.lt
  have hsrc1 : ∀ j v, (us.drop k)[j]? = some v → W1.cell? ((⟨g, k, none⟩ : Addr).add j) = some v := by
    intro j v hj
    rw [Addr.add_lit]
    rw [List.getElem?_drop] at hj
    exact below_keeps hbl _ _ (hsrc _ _ hj)
  rw [← hW1] at hrz
  have hsp := splice_two (Z := ROW.toList) (us := us) (u := u) (k := k) (n := n) (by omega) hn (by omega) hR2
  have hl1 : (splice ROW.toList k [u]).length = C := by rw [length_splice _ _ _ (by rw [hR1]; simp; omega), hR1]
  have hl2 : (splice (splice ROW.toList k [u]) (k + 1) (us.drop k)).length = C := by
    rw [length_splice _ _ _ (by rw [hl1]; omega), hl1]
  obtain ⟨DD, hDD⟩ : ∃ DD, us.drop k = DD := ⟨_, rfl⟩
  obtain ⟨CC, hCC⟩ : ∃ CC, ROW.toList = CC := ⟨_, rfl⟩
  have hneg : g ≠ G := by omega
  have hnev : vb ≠ G := by omega
  have hbG : base ≤ G := by omega
  have HSS := Lib.hid (show ∀ v ∈ us.drop k, v.oneCell' = true from fun v hv => hS v (List.mem_of_mem_drop hv))
  rw [hDD] at hsrc1 HSS hdl hl2 hsp
  rw [hDD]
  rw [hCC] at hB1 hsp hl1 hl2 hR1
  have HV := Lib.hid hv1; have HSP := Lib.hid hsp; have HL1 := Lib.hid hl1; have HL2 := Lib.hid hl2; have HS1 := Lib.hid hsrc1; have HDL := Lib.hid hdl; have HR := Lib.hid hR1; have HSZ := Lib.hid hsz; have HB1 := Lib.hid hB1; have HBL := Lib.hid hbl
  have hw1 : IntKind.i64.wrap ((k : Int) + 1) = (k : Int) + 1 := by rw [IntKind.wrap_i64]; omega
  have hb1 : (0 : Int) ≤ (k : Int) + 1 := by omega
  have htn : ((k : Int) + 1).toNat = k + 1 := by omega
  have hz2 : ¬ ((k : Int) = (n : Int)) := by omega
  have hz3 : (cap : Int) < (n : Int) + 1 := by omega
  have hin : (k : Int) ≤ (n : Int) := by omega
  have hb2 : ¬ (C = k + 1) := by omega
  have hb4 : ¬ (cap = k) := by omega
  have hb5 : ¬ (C = k) := by omega
  have hb3 : (k : Int) ≤ (n : Int) + 1 := by omega
  have hcap : cap ≤ 9223372036854775807 := by omega
  have hC63 : C ≤ 9223372036854775807 := by unfold maxLen at hG63; omega
  have HG63 := Lib.hid hG63; have HBB := Lib.hid hb
  have HLEN := Lib.hid (show (us.take k ++ u :: DD).length = n + 1 by rw [← hDD]; simp; omega)
  clear hg hv hv1 hsp hl1 hl2 hsrc1 hsrc hdl hsz hcs htk hS hn hDD hCC hi0 hz0 hz1 hz2 hold hROW hR1 hR2 hW1 hB1 hbl hC hG hik hG63 hgl hvl hcl hb
  go_enter Try.func136, Try.ntmps136
  go_wp2_with (first
    | (at_builtin; refine Lib.wpList_append_run _ rfl _ _ _ _ rfl _ _ rfl rfl _ _ (hrz _) ?_)
    | ((with_reducible show wpList _ _ _ (⟨some 45, _, _, _, _, _⟩ :: _) _ _); go_loud (refine list_copy_row rfl (.tmp 43) (.tmp 44) 46 46 rfl 22 Try.underlying46 HSZ.out G k (n + 1 - k) (C - k) ⟨vb, 0, none⟩ 1 1 rfl rfl CC 22 HB1.out [u] (by simp only [Nat.min_def, List.length_singleton]; split <;> omega) (fun j v hj => by match j with | 0 => (simp at hj; subst hj; exact HV.out.cell 0) | j + 1 => simp at hj) (by rw [HR.out]; simp; omega) (fun v hv => by simp at hv; subst hv; exact hu) ?_); intro w4 hg4 ho4))
  have HO4 := Lib.hid ho4
  have HS4 := Lib.hid (show ∀ j v, DD[j]? = some v → w4.drew.cell? ((⟨g, k, none⟩ : Addr).add j) = some v from fun j v hj => by
    have h := HS1.out j v hj
    rw [Addr.add_lit] at h ⊢
    show w4.cell? _ = _
    rw [World.cell?, ho4.block g hneg]
    exact h)
  clear ho4
  go_region_law (refine step_copy_row rfl (.tmp 50) (.tmp 53) 46 46 rfl 22 Try.underlying46 HSZ.out G (k + 1) (n + 1 - (k + 1)) (C - (k + 1)) ⟨g, k, none⟩ (n - k) (cap - k) (by simp [Act.eval, Act.put]) (by simp [Act.eval, Act.put]) (splice CC k [u]) 22 hg4.out DD (by rw [HDL.out]; simp only [Nat.min_def]; split <;> omega) HS4.out (by rw [HL1.out, HDL.out]; omega) HSS.out ?_; intro w6 hg6 ho6)
  go_wp2
  go_ret
  have hb0 : Below base w W1 := HBL.out.mono HBB.out
  exact ⟨_, rfl, vown_mk (n + 1) HLEN.out hbG hg6.out hGn HG63.out (by simpa using HL2.out) (by simpa using HSP.out.2), hb0.trans ((HO4.out.below hbG).trans (ho6.drew.below hbG))⟩
/-- slices.Insert: a list at a place -/
theorem ins_any (base : Nat) (v : Value) (us : List Value) (a1 : Option Addr) (n1 c1 vb k : Nat) (w : World) (h : VOwn 22 base w v us) (hk : k ≤ us.length) (hbig : us.length ≤ 1000000) (hv : Blk w vb #[.slice a1 n1 c1] 22) (hne : some vb ≠ v.ownBlock) (hb : base ≤ w.heap.size) (hS : Sls us) :
    Calls Try.prog 136 #[v, .int .i64 (k : Int), .slice (some ⟨vb, 0, none⟩) 1 1] w fun e w' => ∃ v', e = .returned v' ∧ VOwn 22 base w' v' (us.take k ++ .slice a1 n1 c1 :: us.drop k) ∧ Below base w w' := by
  rcases Nat.lt_or_eq_of_le hk with hlt | rfl
  · obtain ⟨g, cap, cur, rfl, h1, h2, h3, h4, h5, h6⟩ := vown_parts h (by omega)
    have hm : cap ≤ 9223372036854775807 := by unfold maxLen at h4; omega
    by_cases hroom : us.length + 1 ≤ cap
    · refine (ins_shift g cap k us.length cur us (.slice a1 n1 c1) vb w h2 rfl hlt hroom hm h5 h6 hv (fun e => hne (by rw [e]; rfl)) hS.mem rfl).mono ?_
      rintro e w' ⟨rfl, ⟨cur', g1, g2, g3⟩, g4⟩
      exact ⟨_, rfl, vown_mk _ (by simp; omega) h1 g1 hroom h4 g2 g3, g4.mono h1⟩
    · exact ins_grow base g cap k us.length cur us (.slice a1 n1 c1) vb w hb h2 rfl hlt (by omega) h3 hbig h6 h5 hv hS.mem rfl
  · rw [List.take_length, List.drop_length]
    exact ins_end base v us a1 n1 c1 vb _ w h rfl hbig (hv.cell 0) hb

end Go.Proofs.Ytmipnikhgihcpaa
