/- Contracts of builder.keep, drop, put. -/
import Derived.Test.YtbgbcmfgncneiaaOver1
namespace Go.Proofs.Ytbgbcmfgncneiaa
open Go.RowKit
set_option linter.unusedVariables false
set_option linter.unusedSimpArgs false

/-- out = append(out, src...) onto a row of the call's own: the row stays where it is, or is new -/
theorem appAt {ops : Array Oper} {rest : List Oper} {o : Oper} {a : Act} {Q : Exit → Act → World → Prop} {w : World} (hgd : o.guard = none) (s x : Operand)
    (ho : o.op = .call { callee := .builtin .append, args := #[s, x], argTypes := #[35, 35] })
    (base : Nat) (v : Value) (xs ys : List Int) (ad : Addr) (m c : Nat) (hs : a.eval s = v) (hx : a.eval x = .slice (some ad) m c)
    (hown : Own 3 base w v xs) (hy : Ints w (some ad) ys) (hm : ys.length = m) (hl : xs.length + m ≤ 17592186044416) (hbase : base ≤ w.heap.size)
    (h : ∀ v' w', Own 3 base w' v' (xs ++ ys) → w.grownBy w' v.ownBlock → (v'.ownBlock = v.ownBlock ∨ v'.ownBlock = some w.heap.size) → wpList Try.prog ops Q rest (a.put o.dst v') w') :
    wpList Try.prog ops Q (o :: rest) a w := by
  obtain ⟨i0, hi, hz0, hz1, hz2⟩ := info_parts info_int
  refine wpList_append_own_at w hgd s x 35 ho base 3 i0 (.int .i64 0) 1 8 Try.underlying35 hi hz0 hz1 hz2 rfl (by decide) v xs.length _ hs hown ad m c (ys.map (Value.int .i64)) hx (by simp [hm]) ?_ ?_ ?_ ?_ hbase ?_
  · intro j u hj
    have hlt : j < ys.length := by
      rcases Nat.lt_or_ge j ys.length with h | h
      · exact h
      · simp [h] at hj
    rcases hy with hy | ⟨b, o', ha, hc⟩
    · subst hy; simp at hlt
    · simp only [Option.some.injEq] at ha
      subst ha
      have hadd : (⟨b, o', none⟩ : Addr).add j = ⟨b, o' + j, none⟩ := by unfold Addr.add; split <;> simp_all
      rw [hadd, hc j hlt]
      rw [List.getElem?_map, List.getElem?_eq_getElem hlt] at hj
      rw [ix_eq hlt]; exact hj
  · intro u hu
    obtain ⟨y, _, rfl⟩ := List.mem_map.1 hu
    rfl
  · unfold maxLen; omega
  · omega
  · intro v' w' h1 h2 _ h4
    refine h v' w' ?_ h2 h4
    unfold Own
    simpa [hm] using h1

/-- a row of splices is as it was, where a text apart from its own has grown -/
theorem SOwn.grownText {base : Nat} {w w' : World} {v tv : Value} {us : List SV} {es : List Sp} {x : List Int} (h : SOwn base w v us es) (ho : Own 3 base w tv x) (ha : Apart us tv) (hg : w.grownBy w' tv.ownBlock) : SOwn base w' v us es := by
  refine ⟨⟨h.1.1, ?_⟩, ?_⟩
  · rcases h.1.2 with hn | ⟨g, cap, cur, rfl, hb', hgg, rest⟩
    · exact .inl hn
    · refine .inr ⟨g, cap, cur, rfl, hb', ?_, rest⟩
      rw [hg.block g (Array.getElem?_eq_some_iff.1 hgg).1 ?_]
      · exact hgg
      · intro hv
        rcases ho.2 with ⟨rfl, _⟩ | ⟨g2, cap2, cur2, rfl, hb2, hgg2, rest2⟩
        · simp [Value.ownBlock] at hv
        · simp only [Value.ownBlock, Option.some.injEq] at hv
          subst hv
          rw [hgg] at hgg2
          simp at hgg2
  · have hmem : ∀ (us' : List SV) (es' : List Sp), (∀ u ∈ us', u ∈ us) → All2 (SV.is w base) us' es' → All2 (SV.is w' base) us' es' := by
      intro us' es' hsub hall
      induction hall with
      | nil => exact .nil
      | cons hh _ ih =>
        rename_i u p l m _
        refine .cons ?_ (ih fun u' hu' => hsub u' (List.mem_cons_of_mem _ hu'))
        refine hh.imp fun k => ⟨k.1, ?_⟩
        rcases k.2 with hn | ⟨g, cap, cur, hv, hb', hgg, rest⟩
        · exact .inl hn
        · refine .inr ⟨g, cap, cur, hv, hb', ?_, rest⟩
          rw [hg.block g (Array.getElem?_eq_some_iff.1 hgg).1 ?_]
          · exact hgg
          · intro hc
            refine ha g hc.symm u (hsub u (by simp)) ?_
            rw [hv]; rfl
    exact hmem us es (fun u hu => hu) h.2
theorem Apart.fresh {base : Nat} {w : World} {v tv : Value} {us : List SV} {es : List Sp} (h : SOwn base w v us es) (ht : tv.ownBlock = some w.heap.size) : Apart us tv := by
  intro k hk u hu hc
  rw [ht] at hk
  simp only [Option.some.injEq] at hk
  subst hk
  have : ∀ (us' : List SV) (es' : List Sp), All2 (SV.is w base) us' es' → u ∈ us' → False := by
    intro us' es' hall
    induction hall with
    | nil => intro h; simp at h
    | cons hh _ ih =>
      intro hm
      rcases List.mem_cons.1 hm with rfl | hm
      · have := (World.ownsRow.lt hh.2.2 _ hc).2
        omega
      · exact ih hm
  exact this us es h.2 hu

/-- a splice is appended, as an operation of a region that draws its order -/
theorem step_sappB {ops : Array Oper} {o : Oper} {a : Act} {K : Act → World → Prop} {Q : Exit → Act → World → Prop} {w : World} {E : Prop} (hw : Region.wanted o (yielded ops a.tmps) = true) (s x : Operand)
    (ho : o.op = .call { callee := .builtin .append, args := #[s, x], argTypes := #[22, 22] })
    (base : Nat) (v : Value) (us : List SV) (es : List Sp) (u : SV) (p : Sp) (B : Nat) (hs : a.eval s = v) (hx : a.eval x = .slice (some ⟨B, 0, none⟩) 1 1)
    (hown : SOwn base w v us es) (hu : SV.is w base u p) (hB : Blk w B #[.int .i64 u.f, .int .i64 u.t, .slice u.a u.n u.c] 127) (hl : es.length < 1000000000) (hbase : base ≤ w.heap.size)
    (h : ∀ v' w', SOwn base w' v' (us ++ [u]) (es ++ [p]) → w.grownBy w' v.ownBlock → K (a.put o.dst v') w') :
    if Region.wanted o (yielded ops a.tmps) = true then Oper.wp Try.prog o a w K Q else E := by
  rw [if_pos hw]
  obtain ⟨i0, hi, hz0, hz1, hz2⟩ := info_parts info_spl
  refine wp_append_own w s x 22 ho base 127 i0 _ 3 40 Try.underlying22 hi hz0 hz1 hz2 rfl (by decide) v es.length _ hs hown.1 ⟨B, 0, none⟩ 1 1 u.cells hx rfl (cells3 hB) (one3 u) ?_ ?_ hbase ?_
  · unfold maxLen; omega
  · omega
  · intro v' w' h1 h2 _
    exact h v' w' (sapp_core hown hu h1 h2) h2
def keepB (b : BSt) : BSt := ⟨if b.op = true then b.out ++ [b.now] else b.out, b.pl + 1, false, b.now⟩
def dropB (b : BSt) : BSt := ⟨(beginB b).out, b.pl + 1, true, ⟨(beginB b).now.f, b.pl + 1, (beginB b).now.x⟩⟩
def putB (b : BSt) (x : List Int) : BSt := if x = [] then b else ⟨(beginB b).out, b.pl, true, ⟨(beginB b).now.f, (beginB b).now.t, (beginB b).now.x ++ x⟩⟩

set_option maxRecDepth 100000 in
set_option maxHeartbeats 2000000 in
theorem builder_keep (base B : Nat) (b : BSt) (w : World) (h : BAt base w B b) (h0 : 0 ≤ b.pl) (h1 : b.pl ≤ 100000000) (hl : b.out.length ≤ 100000000) :
    Calls Try.prog 97 #[.pointer (some ⟨B, 0, none⟩)] w (BPost base B (keepB b) w) := by
  obtain ⟨ov, us, na, nn, nc, hB, hs, ho, ha, hbB, hbz⟩ := h
  obtain ⟨out, pl, op, now⟩ := b
  unfold BSt.cells at hB
  simp only at hB hs ho ha h0 h1 hl
  obtain ⟨c0, c1, c2, c3, c4, c5⟩ := hB.six
  obtain ⟨f0, f1, f2, f3, f4, f5⟩ := hB.sixF
  have hW := BW.start hB hs ho
  have HW := Lib.hid hW
  cases op with
  | false =>
    clear hs hB ha ho hW
    go_enter Try.func97, Try.ntmps97
    go_wp2
    go_end0
    exact ((HW.out.set hbB 1 _)).end (b := ⟨out, pl + 1, false, now⟩) rfl (fun h => by simp at h) hbB hbz
  | true =>
    have hne := hs.neBlk hB (by decide)
    have hca : ∀ o : Obj, (w.alloc o).cell? ⟨B, 0, none⟩ = some ov := fun o => (hB.alloc o).cell 0
    clear hW
    go_enter Try.func97, Try.ntmps97
    go_wp2
    go_region_law ((refine step_sappB (by rfl) _ _ rfl base ov us out ⟨now.f, now.t, na, nn, nc⟩ now _ rfl rfl (hs.drew.alloc _) ⟨rfl, rfl, ho.drew.alloc _⟩ (Blk.new _ _ _) (by omega) (size_alloc_le hbz _) ?_; intro v9 w9 hown9 hgrow9; obtain ⟨a9, c9, rfl, -, -, -⟩ := hown9.form; have hB9 := (hB.drew.alloc _).grown hgrow9 hne; obtain ⟨k0, k1, k2, k3, k4, k5⟩ := hB9.six; obtain ⟨l0, l1, l2, l3, l4, l5⟩ := hB9.sixF))
    all_goals
      have ho9 := (ho.drew.alloc _).grownOther (hs.drew.alloc _).1 (by decide) hgrow9
      have hk9 : Keeps w w9 := ((Keeps.refl w).drew.alloc _).grownS (hs.drew.alloc _) hgrow9
      have hb9 : Below base w w9 := (((Below.refl base w).drew.alloc hbz _)).grown hgrow9 (size_alloc_le hbz _) hs.row
      have hW9 : BW base B w w9 _ _ _ _ _ _ := ⟨hB9, hown9, ho9, hk9, hb9⟩
      have HW9 := Lib.hid hW9
      clear hW9 hk9 hb9 ho9 hs hB ho ha
      go_wp2
      go_end0
      exact ((((HW9.out.set hbB 0 _).set hbB 2 _).set hbB 1 _)).end (b := ⟨out ++ [now], pl + 1, false, now⟩) (by simp [BSt.cells]) (fun h => by simp at h) hbB hbz

set_option maxRecDepth 100000 in
set_option maxHeartbeats 1000000 in
theorem builder_drop (base B : Nat) (b : BSt) (w : World) (h : BAt base w B b) (h0 : 0 ≤ b.pl) (h1 : b.pl ≤ 100000000) :
    Calls Try.prog 98 #[.pointer (some ⟨B, 0, none⟩)] w (BPost base B (dropB b) w) := by
  have hpl : (beginB b).pl = b.pl := by unfold beginB; split <;> rfl
  have hop : (beginB b).op = true := by unfold beginB; split <;> simp_all
  have hdb : dropB b = ⟨(beginB b).out, b.pl + 1, true, ⟨(beginB b).now.f, b.pl + 1, (beginB b).now.x⟩⟩ := rfl
  have HDB := Lib.hid hdb
  have HBG := Lib.hid (builder_begin base B b w h)
  have hbB : base ≤ B := by obtain ⟨ov, us, na, nn, nc, hB, hs, ho, ha, hbB, hbz⟩ := h; exact hbB
  have hbz : base ≤ w.heap.size := by obtain ⟨ov, us, na, nn, nc, hB, hs, ho, ha, hbB, hbz⟩ := h; exact hbz
  rw [← hpl] at h0 h1 
  have HPL := Lib.hid hpl
  clear hpl hdb h
  generalize beginB b = d at *
  obtain ⟨out, pl, op, now⟩ := d
  simp only at hop h0 h1
  subst hop
  go_enter Try.func98, Try.ntmps98
  go_wp2_with fail
  refine HBG.out.mono ?_
  rintro e w2 ⟨rfl, ⟨ov, us, na, nn, nc, hB, hs, ho, ha, -, -⟩, hb2, hk2⟩
  unfold BSt.cells at hB
  simp only at hB hs ho ha
  obtain ⟨c0, c1, c2, c3, c4, c5⟩ := hB.six
  obtain ⟨f0, f1, f2, f3, f4, f5⟩ := hB.sixF
  have hW : BW base B w w2 _ ov us out _ now.x := ⟨hB, hs, ho, hk2, hb2⟩
  have HW := Lib.hid hW
  have HA := Lib.hid (ha trivial)
  clear hW hB hs ho ha hb2 hk2
  go_wp2
  go_end0
  rw [HDB.out, ← HPL.out]
  exact ((HW.out.set hbB 1 _).set hbB 4 _).end (b := ⟨out, pl + 1, true, ⟨now.f, pl + 1, now.x⟩⟩) rfl (fun _ => HA.out) hbB hbz

set_option maxRecDepth 100000 in
set_option maxHeartbeats 1000000 in
theorem builder_put (base B : Nat) (b : BSt) (x : List Int) (ta : Option Addr) (tn tc : Nat) (w : World) (h : BAt base w B b) (hx : ∀ W, Below base w W → Ints W ta x) (hn : x.length = tn) (ht : tn ≤ 4096) (h0 : ta = none → tn = 0) (hl : (beginB b).now.x.length ≤ 100000000) :
    Calls Try.prog 96 #[.pointer (some ⟨B, 0, none⟩), .slice ta tn tc] w (BPost base B (putB b x) w) := by
  by_cases hx0 : x = []
  · subst hx0
    obtain rfl : tn = 0 := by simpa using hn.symm
    rw [putB, if_pos rfl]
    have HB := Lib.hid h
    clear h hx
    go_enter Try.func96, Try.ntmps96
    go_wp2
    go_end0
    exact ⟨rfl, HB.out, Below.refl _ _, Keeps.refl _⟩
  · have hpos : 0 < tn := by
      rcases Nat.eq_zero_or_pos tn with h | h
      · exact absurd (List.eq_nil_of_length_eq_zero (by omega)) hx0
      · exact h
    obtain ⟨ad, rfl⟩ : ∃ ad, ta = some ad := by
      cases ta with
      | none => have := h0 rfl; omega
      | some ad => exact ⟨ad, rfl⟩
    have hop : (beginB b).op = true := by unfold beginB; split <;> simp_all
    have hpl : (beginB b).pl = b.pl := by unfold beginB; split <;> rfl
    have HDB := Lib.hid (show putB b x = ⟨(beginB b).out, b.pl, true, ⟨(beginB b).now.f, (beginB b).now.t, (beginB b).now.x ++ x⟩⟩ by rw [putB, if_neg hx0])
    have HBG := Lib.hid (builder_begin base B b w h)
    have hbB : base ≤ B := by obtain ⟨ov, us, na, nn, nc, hB, hs, ho, ha, hbB, hbz⟩ := h; exact hbB
    have hbz : base ≤ w.heap.size := by obtain ⟨ov, us, na, nn, nc, hB, hs, ho, ha, hbB, hbz⟩ := h; exact hbz
    have HN := Lib.hid hn
    have HPL := Lib.hid hpl
    clear h hx0 hn h0 hpl
    generalize beginB b = d at *
    obtain ⟨out, pl, op, now⟩ := d
    simp only at hop hl
    subst hop
    go_enter Try.func96, Try.ntmps96
    go_wp2_with fail
    refine HBG.out.mono ?_
    rintro e w2 ⟨rfl, ⟨ov, us, na, nn, nc, hB, hs, ho, ha, -, hbz2⟩, hb2, hk2⟩
    unfold BSt.cells at hB
    simp only at hB hs ho ha
    replace ha := ha trivial
    have hI := hx w2 hb2
    obtain ⟨c0, c1, c2, c3, c4, c5⟩ := hB.six
    obtain ⟨f0, f1, f2, f3, f4, f5⟩ := hB.sixF
    have hne := ho.neBlk hB (by decide)
    go_wp2_with (at_builtin; refine appAt rfl _ _ rfl base _ now.x x ad tn tc rfl rfl ho hI HN.out (by omega) hbz2 ?_; intro v4 w4 hown4 hgrow4 hblk4; obtain ⟨a4, n4, c4', rfl⟩ := hown4.form; have hB4 := hB.grown hgrow4 hne; obtain ⟨k0, k1, k2, k3, k4, k5⟩ := hB4.six; obtain ⟨l0, l1, l2, l3, l4, l5⟩ := hB4.sixF)
    have hs4 := hs.grownText ho ha hgrow4
    have ha4 : Apart us (.slice a4 n4 c4') := by
      rcases hblk4 with hb | hb
      · intro k hk; rw [hb] at hk; exact ha k hk
      · exact Apart.fresh hs hb
    have hW4 : BW base B w w4 _ ov us out _ _ := ⟨hB4, hs4, hown4, hk2.grownI ho hgrow4, hb2.grown hgrow4 hbz2 ho.row⟩
    go_end0
    rw [HDB.out, ← HPL.out]
    exact (hW4.set hbB 5 _).end (b := ⟨out, pl, true, ⟨now.f, now.t, now.x ++ x⟩⟩) rfl (fun _ => ha4) hbB hbz

end Go.Proofs.Ytbgbcmfgncneiaa
