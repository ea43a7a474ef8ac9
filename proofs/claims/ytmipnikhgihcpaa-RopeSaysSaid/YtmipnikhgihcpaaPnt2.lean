/- Contracts of the methods of paint.joined: to, over, erase. -/
import Derived.Test.YtmipnikhgihcpaaPnt1
import Derived.Test.YtmipnikhgihcpaaSlP
import Derived.Deep.RegionLaw
namespace Go.Proofs.Ytmipnikhgihcpaa
open Go.RowKit
set_option linter.unusedVariables false
set_option linter.unusedSimpArgs false

theorem step_appV {ops : Array Oper} {o : Oper} {a : Act} {K : Act → World → Prop} {Q : Exit → Act → World → Prop} {w : World} {E : Prop} (hw : Region.wanted o (yielded ops a.tmps) = true) (s x : Operand)
    (ho : o.op = .call { callee := .builtin .append, args := #[s, x], argTypes := #[22, 22] })
    (base : Nat) (v : Value) (xs ys : List Int) (ad : Option Addr) (m c : Nat) (hs : a.eval s = v) (hx : a.eval x = .slice ad m c)
    (hown : Own 3 base w v xs) (hy : Ints w ad ys) (hm : ys.length = m) (h0 : ad = none → m = 0) (hl : xs.length + m ≤ 17592186044416) (hbase : base ≤ w.heap.size)
    (h : ∀ v' w', Own 3 base w' v' (xs ++ ys) → w.grownBy w' v.ownBlock → K (a.put o.dst v') w') :
    if Region.wanted o (yielded ops a.tmps) = true then Oper.wp Try.prog o a w K Q else E := by
  rw [if_pos hw]
  rcases ad with _ | ad
  · obtain rfl : m = 0 := h0 rfl
    obtain rfl : ys = [] := List.eq_nil_of_length_eq_zero hm
    have hr := run_app_nilx w o.type v xs base c hown (by omega)
    unfold Oper.wp execOp
    simp only [ho, resolve, invoke, builtin, Sem.run_bind, Sem.run_pure, Result.andThen_ok, List.map_toArray, List.map_cons, List.map_nil, hs, hx, hr]
    exact h v w (by simpa using hown) ⟨rfl, rfl, rfl, Nat.le_refl _, fun _ _ _ => rfl⟩
  · exact wp_appN s x ho base v xs ys ad m c hs hx hown hy hm hl hbase fun v' w' h1 h2 _ => h v' w' h1 h2

/-- a joined thing in block J: cells cv, at place p, with signs s -/
def JT (base : Nat) (w : World) (J : Nat) (cv : Value) (p : Nat) (s : List Int) (m : Nat) : Prop :=
  ∃ sv, Blk w J #[cv, .int .i64 (p : Int), sv] 168 ∧ Own 3 base w sv s ∧ base ≤ J ∧ s.length ≤ 400 * m
def JPost (base J : Nat) (cv : Value) (p : Nat) (s : List Int) (m : Nat) (w : World) (e : Ending) (w' : World) : Prop :=
  e = .returned (.pointer (some ⟨J, 0, none⟩)) ∧ JT base w' J cv p s m ∧ Below base w w' ∧ w.heap.size ≤ w'.heap.size
theorem Own.sl0 {e : TypeId} {base : Nat} {w : World} {a : Option Addr} {n c : Nat} {xs : List Int} (h : Own e base w (.slice a n c) xs) : a = none → n = 0 := h.sl.get.2.2.2.2
theorem wayS_len (B : List Int) (f t : Nat) (ht : t ≤ B.length) : (wayS B f t).length ≤ f + t + 1 := by
  unfold wayS
  split
  · rw [List.length_drop, List.length_take]; omega
  · split
    · rw [List.length_replicate]; omega
    · rw [List.length_cons, List.length_take]; omega

theorem SlP.belowB {base : Nat} {w w' : World} {v : Value} {xs : List Int} (h : SlP (fun x => x < base) w v xs) (hb : Below base w w') : SlP (fun x => x < base) w' v xs :=
  h.keep fun q v hq hc => by
    unfold World.cell? at hc ⊢
    rw [hb.block _ hq]; exact hc
structure JW (base J : Nat) (w0 w : World) (cs : Array Value) (sv : Value) (s : List Int) : Prop where
  blk : Blk w J cs 168
  own : Own 3 base w sv s
  bel : Below base w0 w
theorem JW.set {base J : Nat} {w0 w : World} {cs : Array Value} {sv : Value} {s : List Int} (h : JW base J w0 w cs sv s) (hb : base ≤ J) (i : Nat) (v : Value) : JW base J w0 (w.setCell ⟨J, i, none⟩ v) (cs.setIfInBounds i v) sv s :=
  ⟨h.blk.set i v, h.own.other (a := ⟨J, i, none⟩) (h.own.neBlk h.blk (by decide)) v, h.bel.setCell (p := ⟨J, i, none⟩) hb v⟩
theorem JW.fin {base J : Nat} {w0 w : World} {cs : Array Value} {cv sv : Value} {p : Nat} {s : List Int} {m : Nat} (h : JW base J w0 w cs sv s) (hc : cs = #[cv, .int .i64 (p : Int), sv]) (hb : base ≤ J) (hl : s.length ≤ 400 * m) : JPost base J cv p s m w0 (.returned (.pointer (some ⟨J, 0, none⟩))) w := by
  subst hc
  exact ⟨rfl, ⟨sv, h.blk, h.own, hb, hl⟩, h.bel, h.bel.size⟩

set_option maxRecDepth 100000 in
set_option maxHeartbeats 2000000 in
theorem joined_to (base J m : Nat) (a : Option Addr) (n c p k : Nat) (B s : List Int) (w : World) (hs : SlP (fun x => x < base) w (.slice a n c) B) (h : JT base w J (.slice a n c) p s m) (hp : p ≤ n) (hk : k ≤ n) (hn : n ≤ 120) (hm : m ≤ 100) :
    Calls Try.prog 108 #[.pointer (some ⟨J, 0, none⟩), .int .i64 (k : Int)] w (JPost base J (.slice a n c) k (s ++ wayS B p k) (m + 1) w) := by
  obtain ⟨sv, hB, hown, hbJ, hl⟩ := h
  obtain ⟨sa, sn, sc, rfl⟩ := hown.form
  have hJ := hB.lt
  have hwl := wayS_len B p k (by rw [hs.get.1]; exact hk)
  have hsl := hs.sl
  obtain ⟨c0, c1, c2, g0, g1, g2⟩ := hB.three
  go_enter Try.func108, Try.ntmps108
  go_wp2
  go_region_law (first | (go_simp; go_at_call 155; refine (paint_way a n c p k B _ hsl.drew hp hk hn).mono ?_; rintro e w8 ⟨v8, rfl, o8, hb8⟩; obtain ⟨a8, n8, c8, rfl⟩ := o8.form; have hB8 := hB.drew.below hb8 hB.drew.lt; obtain ⟨k0, k1, k2, l0, l1, l2⟩ := hB8.three; have ho8 := hown.drew.kept hb8) | (refine step_appV (by rfl) _ _ rfl base (.slice sa sn sc) s _ _ _ _ rfl rfl ho8 o8.get.2.1 o8.get.1 o8.sl0 (by rw [← o8.get.1]; omega) (Nat.le_trans (Nat.le_trans hbJ (Nat.le_of_lt hJ)) hb8.size) ?_; intro v9 w9 o9 hgrow9; obtain ⟨a9, n9, c9, rfl⟩ := o9.form; have hB9 := hB8.grown hgrow9 (ho8.neBlk hB8 (by decide)); obtain ⟨m0, m1, m2, q0, q1, q2⟩ := hB9.three))
  all_goals
    have hW9 : JW base J w w9 _ _ _ := ⟨hB9, o9, ((Below.refl base w).drew.trans (hb8.mono (Nat.le_trans hbJ (Nat.le_of_lt hJ)))).grown hgrow9 (Nat.le_trans (Nat.le_trans hbJ (Nat.le_of_lt hJ)) hb8.size) ho8.row⟩
    have HW9 := Lib.hid hW9
    clear hW9 hB9 o9 hb8 hB8 ho8 hB hown hgrow9 hs hsl
    go_wp2
    go_ret
    exact ((HW9.out.set hbJ 2 _).set hbJ 1 _).fin (by simp) hbJ (by rw [List.length_append]; omega)

set_option maxRecDepth 100000 in
set_option maxHeartbeats 2000000 in
theorem joined_over (base J m : Nat) (a : Option Addr) (n c p f t : Nat) (B s : List Int) (w : World) (hs : SlP (fun x => x < base) w (.slice a n c) B) (h : JT base w J (.slice a n c) p s m) (hp : p ≤ n) (hf : f ≤ t) (ht : t ≤ n) (hn : n ≤ 120) (hm : m ≤ 90) :
    Calls Try.prog 109 #[.pointer (some ⟨J, 0, none⟩), .int .i64 (f : Int), .int .i64 (t : Int)] w (JPost base J (.slice a n c) t ((s ++ wayS B p f) ++ wayS B f t) (m + 2) w) := by
  have hto := joined_to base J m a n c p f B s w hs h hp (by omega) hn (by omega)
  have hwl := wayS_len B p f (by rw [hs.get.1]; omega)
  obtain ⟨s1, s2, s3, s4, s5⟩ := hs.get
  go_enter Try.func109, Try.ntmps109
  go_wp2_with fail
  refine hto.mono ?_
  rintro e w2 ⟨rfl, ⟨sv, hB, hown, hbJ, hl2⟩, hb2, hz2⟩
  obtain ⟨sa, sn, sc, rfl⟩ := hown.form
  have hJ := hB.lt
  obtain ⟨c0, c1, c2, g0, g1, g2⟩ := hB.three
  have hs2 := hs.belowB hb2
  have hI := hs2.get.2.2.2.1.cutTo (c := c) f t (by rw [s1]; omega) hf (by rw [s1]; omega)
  have hcr := cut_run a n c f t hf (by omega)
  have hlen : ((B.take t).drop f).length = t - f := by rw [List.length_drop, List.length_take, s1]; omega
  have hw : wayS B f t = (B.take t).drop f := by unfold wayS; rw [if_pos hf]
  have HL := Lib.hid hlen; have HS := Lib.hid s1
  have hsl : (s ++ wayS B p f).length ≤ 100000 := by omega
  clear hlen s1 hto h
  go_wp2
  go_region_law (refine step_appV (by rfl) _ _ rfl base (.slice sa sn sc) (s ++ wayS B p f) ((B.take t).drop f) _ _ _ rfl rfl hown.drew hI.drew HL.out (fun e => by have := s5 (cutA_none e); omega) (by omega) (by simp; omega) ?_; intro v9 w9 o9 hgrow9; obtain ⟨a9, n9, c9, rfl⟩ := o9.form; have hB9 := hB.drew.grown hgrow9 (hown.neBlk hB (by decide)); obtain ⟨m0, m1, m2, q0, q1, q2⟩ := hB9.three)
  all_goals
    have hW9 : JW base J w w9 _ _ _ := ⟨hB9, o9, hb2.drew.grown hgrow9 (by simp; omega) hown.row⟩
    have HW9 := Lib.hid hW9
    have hz9 : w.heap.size ≤ w.heap.size := Nat.le_refl _
    clear hW9 hB9 o9 hB hown hgrow9 hs hs2 hI
    go_wp2
    go_ret
    rw [hw]
    exact ((HW9.out.set hbJ 2 _).set hbJ 1 _).fin (by simp) hbJ (by rw [List.length_append, HL.out]; omega)

set_option maxRecDepth 100000 in
set_option maxHeartbeats 2000000 in
theorem joined_erase (base J m : Nat) (a : Option Addr) (n c p k : Nat) (B s : List Int) (w : World) (hs : SlP (fun x => x < base) w (.slice a n c) B) (h : JT base w J (.slice a n c) p s m) (hp : p ≤ n) (hk : k ≤ n) (hn : n ≤ 120) (hm : m ≤ 90) :
    Calls Try.prog 110 #[.pointer (some ⟨J, 0, none⟩), .int .i64 (k : Int)] w (JPost base J (.slice a n c) k ((s ++ wayS B p k) ++ [11]) (m + 2) w) := by
  have hto := joined_to base J m a n c p k B s w hs h hp hk hn (by omega)
  have hwl := wayS_len B p k (by rw [hs.get.1]; omega)
  go_enter Try.func110, Try.ntmps110
  go_wp2_with fail
  refine hto.mono ?_
  rintro e w2 ⟨rfl, ⟨sv, hB, hown, hbJ, hl2⟩, hb2, hz2⟩
  obtain ⟨sa, sn, sc, rfl⟩ := hown.form
  have hJ := hB.lt
  obtain ⟨c0, c1, c2, g0, g1, g2⟩ := hB.three
  have hsl : (s ++ wayS B p k).length ≤ 100000 := by omega
  clear hto h hs
  have hBa := hB.alloc (.cells #[.int .i64 11] 3)
  go_wp2_with (at_builtin; refine appN rfl _ _ rfl base _ (s ++ wayS B p k) [11] _ 1 1 rfl rfl (hown.alloc _) (intsOne _ _) rfl (by omega) (by simp; omega) ?_; intro v9 w9 o9 hgrow9 _; obtain ⟨a9, n9, c9, rfl⟩ := o9.form; have hB9 := hBa.grown hgrow9 (hown.neBlk hB (by decide)); obtain ⟨m0, m1, m2, q0, q1, q2⟩ := hB9.three)
  have hW9 : JW base J w w9 _ _ _ := ⟨hB9, o9, (hb2.alloc (by omega) _).grown hgrow9 (by simp; omega) hown.row⟩
  have HW9 := Lib.hid hW9
  clear hW9 hB9 o9 hB hown hgrow9 hBa
  go_wp2
  go_ret
  exact (HW9.out.set hbJ 2 _).fin (by simp) hbJ (by rw [List.length_append, List.length_singleton]; omega)

set_option maxRecDepth 100000 in
theorem paint_begin (B2 B3 : Nat) (a : Option Addr) (n c p : Nat) (w : World) (c3 : w.cell? ⟨B3, 0, none⟩ = some (.slice a n c)) (c2 : w.cell? ⟨B2, 1, none⟩ = some (.int .i64 (p : Int))) :
    Calls Try.prog 106 #[.pointer (some ⟨B3, 0, none⟩), .pointer (some ⟨B2, 0, none⟩)] w (fun e w' => ∃ J, e = .returned (.pointer (some ⟨J, 0, none⟩)) ∧ w.heap.size ≤ J ∧ JT J w' J (.slice a n c) p [] 0 ∧ Below w.heap.size w w') := by
  go_enter Try.func106, Try.ntmps106
  go_wp2
  go_ret
  exact ⟨_, rfl, Nat.le_refl _, ⟨_, Blk.new _ _ _, Own.nil _ _ _, Nat.le_refl _, by simp⟩, below1 _ _⟩

end Go.Proofs.Ytmipnikhgihcpaa
