/- Registers: an array of 27 slices, by value and in a block; contracts of reg.number, reg.copied. -/
import Derived.Test.YtbgbcmfgncneiaaMark1
import Derived.Test.YtbgbcmfgncneiaaCat
import Derived.Test.YtbgbcmfgncneiaaSep
namespace Go.Proofs.Ytbgbcmfgncneiaa
open Go.RowKit
set_option linter.unusedVariables false
set_option linter.unusedSimpArgs false

/-- the value, the list at a place; the walk does not look behind these names -/
def vx (vs : List Value) (i : Nat) : Value := vs.getD i undef
def rx (X : List (List Int)) (i : Nat) : List Int := X.getD i []
def rgA (vs : List Value) : Array Value := vs.toArray
theorem rgA_size (vs : List Value) : (rgA vs).size = vs.length := by simp [rgA]
theorem vx_set_eq {vs : List Value} {i : Nat} (h : i < vs.length) (v : Value) : vx (vs.set i v) i = v := by simp [vx, h]
theorem vx_set_ne {vs : List Value} {i j : Nat} (h : i ≠ j) (v : Value) : vx (vs.set i v) j = vx vs j := by
  unfold vx; simp [List.getElem?_set, h]
theorem vx_mem {vs : List Value} {v : Value} (h : v ∈ vs) : ∃ i, i < vs.length ∧ vx vs i = v := by
  obtain ⟨i, hi, rfl⟩ := List.mem_iff_getElem.1 h
  exact ⟨i, hi, by simp [vx, hi]⟩
theorem rx_set_eq {X : List (List Int)} {i : Nat} (h : i < X.length) (v : List Int) : rx (X.set i v) i = v := by simp [rx, h]
theorem rx_set_ne {X : List (List Int)} {i j : Nat} (h : i ≠ j) (v : List Int) : rx (X.set i v) j = rx X j := by
  unfold rx; simp [List.getElem?_set, h]

/-- a slice value that reads as the numbers xs -/
def Sl (w : World) (v : Value) (xs : List Int) : Prop := ∃ a n c, v = .slice a n c ∧ xs.length = n ∧ n ≤ c ∧ c ≤ 9223372036854775807 ∧ Ints w a xs ∧ (a = none → n = 0)
theorem Sl.keep {w w' : World} {v : Value} {xs : List Int} (h : Sl w v xs) (hc : ∀ p v, w.cell? p = some v → w'.cell? p = some v) : Sl w' v xs := by
  obtain ⟨a, n, c, h1, h2, h3, h4, h5, h6⟩ := h
  exact ⟨a, n, c, h1, h2, h3, h4, h5.keep hc, h6⟩
theorem Sl.below {w w' : World} {v : Value} {xs : List Int} (h : Sl w v xs) (hb : Below w.heap.size w w') : Sl w' v xs := h.keep (below_keeps hb)
theorem Sl.drewN {w : World} {v : Value} {xs : List Int} (h : Sl w v xs) (n : Nat) : Sl (w.drewN n) v xs := h.keep (fun _ _ h => h)
theorem Sl.drew {w : World} {v : Value} {xs : List Int} (h : Sl w v xs) : Sl w.drew v xs := h.keep (fun _ _ h => h)
theorem Sl.nil (w : World) : Sl w (.slice none 0 0) [] := ⟨none, 0, 0, rfl, rfl, Nat.le_refl _, by omega, Ints.nil _ _, fun _ => rfl⟩
theorem Own.sl {e : TypeId} {base : Nat} {w : World} {v : Value} {xs : List Int} (h : Own e base w v xs) : Sl w v xs := by
  obtain ⟨a, c, rfl, h1, h2⟩ := h.ints
  refine ⟨a, _, c, rfl, rfl, h1, ?_, h2, fun ha => ?_⟩
  · rcases h.2 with ⟨hv, _⟩ | ⟨g, cap, cur, hv, hb, hg, hn, hm, hs, ht⟩
    · simp at hv; omega
    · simp only [Value.slice.injEq] at hv
      obtain ⟨_, _, rfl⟩ := hv
      unfold maxLen at hm; omega
  · rcases h.2 with ⟨hv, h0⟩ | ⟨g, cap, cur, hv, _⟩
    · exact h0
    · simp [ha] at hv
theorem Sl.get {w : World} {a : Option Addr} {n c : Nat} {xs : List Int} (h : Sl w (.slice a n c) xs) : xs.length = n ∧ n ≤ c ∧ c ≤ 9223372036854775807 ∧ Ints w a xs ∧ (a = none → n = 0) := by
  obtain ⟨a', n', c', h1, rest⟩ := h
  simp only [Value.slice.injEq] at h1
  obtain ⟨rfl, rfl, rfl⟩ := h1
  exact rest

theorem under_regs : Try.prog.underlying 37 = some (.array 27 35) := by kernel_rfl
theorem size_regs : (Try.prog.info? 37).map (·.size) = some 27 := by kernel_rfl
def nil27 : List Value := List.replicate 27 (.slice none 0 0)
theorem getD_rep {α : Type} (n : Nat) (v d : α) {i : Nat} (h : i < n) : (List.replicate n v).getD i d = v := by simp [List.getElem?_replicate, h]
theorem vx_nil27 {i : Nat} (h : i < 27) : vx nil27 i = .slice none 0 0 := getD_rep 27 _ _ h
theorem nil27_len : nil27.length = 27 := rfl
theorem alloc_regs (w : World) : (Instr.alloc 37 true (.tuple #[])).run Try.prog w = .ok (.pointer (some ⟨w.heap.size, 0, none⟩)) (w.alloc (.cells (rgA nil27) 37)) := by kernel_rfl
theorem build_regs (w : World) : (Instr.build 37 #[]).run Try.prog w = .ok (.agg (rgA nil27)) w := by kernel_rfl

/-- every value is a slice -/
def Slv (vs : List Value) : Prop := ∀ i, i < vs.length → ∃ a n c, vx vs i = .slice a n c
theorem slv_nil27 : Slv nil27 := by
  intro i hi
  exact ⟨none, 0, 0, vx_nil27 hi⟩

/-- the 27 values read as the 27 lists -/
structure Rgs (w : World) (vs : List Value) (X : List (List Int)) : Prop where
  lv : vs.length = 27
  lx : X.length = 27
  sl : ∀ i, i < 27 → Sl w (vx vs i) (rx X i)
theorem Rgs.keep {w w' : World} {vs : List Value} {X : List (List Int)} (h : Rgs w vs X) (hc : ∀ p v, w.cell? p = some v → w'.cell? p = some v) : Rgs w' vs X :=
  ⟨h.lv, h.lx, fun i hi => (h.sl i hi).keep hc⟩
theorem Rgs.below {w w' : World} {vs : List Value} {X : List (List Int)} (h : Rgs w vs X) (hb : Below w.heap.size w w') : Rgs w' vs X := h.keep (below_keeps hb)
theorem Rgs.drewN {w : World} {vs : List Value} {X : List (List Int)} (h : Rgs w vs X) (n : Nat) : Rgs (w.drewN n) vs X := h.keep (fun _ _ h => h)
theorem Rgs.slv {w : World} {vs : List Value} {X : List (List Int)} (h : Rgs w vs X) : Slv vs := by
  intro i hi
  obtain ⟨a, n, c, h1, _⟩ := h.sl i (by rw [← h.lv]; exact hi)
  exact ⟨a, n, c, h1⟩
def nilX : List (List Int) := List.replicate 27 []
theorem rgs_nil (w : World) : Rgs w nil27 nilX := by
  refine ⟨rfl, rfl, fun i hi => ?_⟩
  have h1 : vx nil27 i = .slice none 0 0 := vx_nil27 hi
  have h2 : rx nilX i = [] := getD_rep 27 _ _ hi
  rw [h1, h2]; exact Sl.nil w

/-- a block known whole, of such values -/
def BlkR (w : World) (B : Nat) (vs : List Value) (e : TypeId) : Prop := Blk w B (rgA vs) e
theorem BlkR.cell {w : World} {B : Nat} {vs : List Value} {e : TypeId} (h : BlkR w B vs e) {i : Nat} (hi : i < vs.length) : w.cell? ⟨B, i, none⟩ = some (vx vs i) := by
  rw [Blk.cell h i]; simp [rgA, vx, hi]
theorem BlkR.set {w : World} {B : Nat} {vs : List Value} {e : TypeId} (h : BlkR w B vs e) (i : Nat) (v : Value) : BlkR (w.setCell ⟨B, i, none⟩ v) B (vs.set i v) e := by
  have := Blk.set h i v
  unfold BlkR
  rwa [show (rgA vs).setIfInBounds i v = rgA (vs.set i v) from by simp [rgA]] at this
theorem BlkR.free {w : World} {B : Nat} {vs : List Value} {e : TypeId} (h : BlkR w B vs e) (i : Nat) : w.frozen? ⟨B, i, none⟩ = false := Blk.free h i
theorem BlkR.lt {w : World} {B : Nat} {vs : List Value} {e : TypeId} (h : BlkR w B vs e) : B < w.heap.size := Blk.lt h
theorem BlkR.alloc {w : World} {B : Nat} {vs : List Value} {e : TypeId} (h : BlkR w B vs e) (o : Obj) : BlkR (w.alloc o) B vs e := Blk.alloc h o
theorem BlkR.new (w : World) (vs : List Value) (e : TypeId) : BlkR (w.alloc (.cells (rgA vs) e)) w.heap.size vs e := Blk.new w _ e
theorem BlkR.other {w : World} {B : Nat} {vs : List Value} {e : TypeId} (h : BlkR w B vs e) {a : Addr} (ha : B ≠ a.block) (u : Value) : BlkR (w.setCell a u) B vs e := Blk.other h ha u
theorem BlkR.below {w w' : World} {B N : Nat} {vs : List Value} {e : TypeId} (h : BlkR w B vs e) (hb : Below N w w') (hN : B < N) : BlkR w' B vs e := Blk.below h hb hN
theorem BlkR.drewN {w : World} {B : Nat} {vs : List Value} {e : TypeId} (h : BlkR w B vs e) (n : Nat) : BlkR (w.drewN n) B vs e := h
theorem BlkR.grown {w w' : World} {B : Nat} {vs : List Value} {e : TypeId} {row : Option Nat} (h : BlkR w B vs e) (hg : w.grownBy w' row) (hr : some B ≠ row) : BlkR w' B vs e := Blk.grown h hg hr

theorem BlkR.ne {w : World} {B : Nat} {us : List Value} {e e' : TypeId} {base : Nat} {v : Value} {xs : List Int} (hB : BlkR w B us e') (h : Own e base w v xs) (he : e ≠ e') : some B ≠ v.ownBlock := h.neBlk hB he
theorem BlkR.put {w : World} {B : Nat} {us : List Value} {e e' : TypeId} {base : Nat} {v : Value} {xs : List Int} (hB : BlkR w B us e') (h : Own e base w v xs) (he : e ≠ e') (i : Nat) (u : Value) : Own e base (w.setCell ⟨B, i, none⟩ u) v xs := h.other (a := ⟨B, i, none⟩) (hB.ne h he) u

/-- a whole array is loaded -/
theorem regs_load {ops : Array Oper} {rest : List Oper} {op : Oper} {a : Act} {w : World} {Q : Exit → Act → World → Prop} (hgd : op.guard = none) (x : Operand) (ho : op.op = .load 37 x)
    (B : Nat) (hx : a.eval x = .pointer (some ⟨B, 0, none⟩)) (vs : List Value) (e : TypeId) (hB : BlkR w B vs e) (hl : vs.length = 27)
    (h : wpList Try.prog ops Q rest (a.put op.dst (.agg (rgA vs))) w) : wpList Try.prog ops Q (op :: rest) a w :=
  wpList_load_row hgd 37 x ho B hx e (rgA vs) (0, 0) _ hB under_regs rfl (by rw [rgA_size, hl]; exact size_regs) h
/-- a whole array is stored -/
theorem regs_store {ops : Array Oper} {rest : List Oper} {op : Oper} {a : Act} {w : World} {Q : Exit → Act → World → Prop} (hgd : op.guard = none) (x y : Operand) (ho : op.op = .store 37 x y)
    (B : Nat) (hx : a.eval x = .pointer (some ⟨B, 0, none⟩)) (us : List Value) (hy : a.eval y = .agg (rgA us)) (vs : List Value) (e : TypeId) (hB : BlkR w B vs e) (hl : vs.length = 27) (hl2 : us.length = 27) (hs : Slv us)
    (h : ∀ w', BlkR w' B us e → Left B w w' → wpList Try.prog ops Q rest (a.put op.dst undef) w') : wpList Try.prog ops Q (op :: rest) a w := by
  refine wpList_store_mid hgd 37 x y ho B 0 (rgA us) hx hy ?_ (by rw [rgA_size, hl2]; exact size_regs) ?_ (h _ ?_ ⟨fun hne hb => hb.setCellsOther hne _ 0, fun hN hb => below_setCells hN _ 0 hb, size_setCells _ _ _⟩)
  · intro j hj
    rw [rgA_size] at hj
    rw [Nat.zero_add]
    exact ⟨by rw [hB.cell (by omega)]; rfl, hB.free j⟩
  · refine all_oneCell_toArray ?_
    intro v hv
    obtain ⟨i, hi, rfl⟩ := vx_mem hv
    obtain ⟨a, n, c, hv⟩ := hs i hi
    rw [hv]; rfl
  · have := Blk.setCells (rgA us).toList 0 hB
    rw [ow_all (by simp [rgA_size, hl, hl2])] at this
    exact this
theorem Left.blkR {B : Nat} {w w' : World} (h : Left B w w') {B' : Nat} {vs : List Value} {e : TypeId} (hne : B' ≠ B) (hb : BlkR w B' vs e) : BlkR w' B' vs e := h.blk hne hb
theorem regs_loadVar {w : World} {B : Nat} {vs : List Value} {e : TypeId} (hB : BlkR w B vs e) (hl : vs.length = 27) : (loadVar 37 ⟨B, 0, none⟩).run Try.prog w = .ok (.agg (rgA vs)) w :=
  run_loadVar_row w B e 37 (rgA vs) (0, 0) _ hB under_regs rfl (by rw [rgA_size, hl]; exact size_regs)
theorem results_c {fn : Func} {s : Tmp} {T : TypeId} (h : fn.results = #[.cell s T]) {tmps : Array Value} {P : Program} {w : World} {ad : Addr} {v : Value} (hp : tmps.getD s undef = .pointer (some ad)) (hl : (loadVar T ad).run P w = .ok v w) :
    (results fn tmps).run P w = .ok v w := by
  have hp' : tmps[s]?.getD undef = .pointer (some ad) := by simpa using hp
  simp [results, h, hp', asAddr, hl]
theorem Own.left {e : TypeId} {base B : Nat} {w w' : World} {v : Value} {xs : List Int} (h : Own e base w v xs) (hL : Left B w w') (hb : B < base) : Own e base w' v xs := by
  refine ⟨h.1, ?_⟩
  rcases h.2 with hn | ⟨g, cap, cur, rfl, hb', hgg, rest⟩
  · exact .inl hn
  · exact .inr ⟨g, cap, cur, rfl, hb', hL.blk (by omega) hgg, rest⟩

/-- number of a register by its name -/
def numI (name : Int) : Int := if name = 0 then 0 else if 97 ≤ name ∧ name ≤ 122 then name - 97 + 1 else if 65 ≤ name ∧ name ≤ 90 then name - 65 + 1 else 0
def numM (name : Int) : Bool := if name = 0 then false else if 97 ≤ name ∧ name ≤ 122 then false else if 65 ≤ name ∧ name ≤ 90 then true else false
def numO (name : Int) : Bool := if name = 0 then true else if 97 ≤ name ∧ name ≤ 122 then true else if 65 ≤ name ∧ name ≤ 90 then true else false
theorem reg_number (name : Int) (w : World) :
    Calls Try.prog 86 #[.int .i64 name] w fun e w' => e = .returned (.tuple #[.int .i64 (numI name), .bool (numM name), .bool (numO name)]) ∧ w = w' := by
  unfold numI numM numO
  by_cases h0 : name = 0
  · subst h0
    go_enter Try.func86, Try.ntmps86
    go_wp2
    go_ret3
    exact ⟨rfl, rfl⟩
  have h0' : (name == 0) = false := by simpa using h0
  rw [if_neg h0, if_neg h0, if_neg h0]
  clear h0
  by_cases h : 97 ≤ name ∧ name ≤ 122
  · rw [if_pos h, if_pos h, if_pos h]
    obtain ⟨h1, h2⟩ := h
    go_enter Try.func86, Try.ntmps86
    go_wp2
    go_ret3
    exact ⟨rfl, rfl⟩
  · rw [if_neg h, if_neg h, if_neg h]
    by_cases h' : 65 ≤ name ∧ name ≤ 90
    · rw [if_pos h', if_pos h']
      obtain ⟨h1, h2⟩ := h'
      clear h
      go_enter Try.func86, Try.ntmps86
      go_wp2
      go_ret3
      exact ⟨rfl, rfl⟩
    · rw [if_neg h', if_neg h']
      have hd : name < 65 ∨ (90 < name ∧ name < 97) ∨ 122 < name := by omega
      clear h h'
      rcases hd with h | ⟨h, h'⟩ | h
      all_goals
        go_enter Try.func86, Try.ntmps86
        go_wp2
        all_goals
          go_ret3
          exact ⟨rfl, rfl⟩

def CopPost (X : List (List Int)) (w : World) (e : Ending) (w' : World) : Prop :=
  ∃ vs, e = .returned (.agg (rgA vs)) ∧ vs.length = 27 ∧ (∀ i, i < 27 → Own 3 w.heap.size w' (vx vs i) (rx X i)) ∧ (∀ i j, i < j → j < 27 → Sep (vx vs i) (vx vs j)) ∧ Below w.heap.size w w'

set_option maxRecDepth 100000 in
set_option maxHeartbeats 1000000 in
theorem reg_copied (vs : List Value) (X : List (List Int)) (w : World) (h : Rgs w vs X) (hX : ∀ i, i < 27 → (rx X i).length ≤ 17592186044416) :
    Calls Try.prog 87 #[.agg (rgA vs)] w (CopPost X w) := by
  have hal := alloc_regs
  have H := Lib.hid h
  have HX := Lib.hid hX
  clear h hX
  have hB0 := (BlkR.new w vs 37).alloc (.cells (rgA nil27) 37)
  have hB1 := BlkR.new (w.alloc (.cells (rgA vs) 37)) nil27 37
  rw [World.size_alloc] at hB1
  have hacc := below2 w (.cells (rgA vs) 37) (.cells (rgA nil27) 37)
  have hsz : w.heap.size + 2 ≤ ((w.alloc (.cells (rgA vs) 37)).alloc (.cells (rgA nil27) 37)).heap.size := by simp
  go_enter Try.func87, Try.ntmps87
  go_upto_region 1 with fail
  change Code.wp _ _ _ _ ((w.alloc (.cells (rgA vs) 37)).alloc (.cells (rgA nil27) 37))
  generalize (w.alloc (.cells (rgA vs) 37)).alloc (.cells (rgA nil27) 37) = w1 at *
  go_wp2
  go_loopw [4] (fun i wr => ∃ k : Nat, i = .int .i64 (k : Int) ∧ k ≤ 27 ∧ ∃ us, us.length = 27 ∧ BlkR wr w.heap.size us 37 ∧ BlkR wr (w.heap.size + 1) nil27 37 ∧
      (∀ i, i < k → Own 3 (w.heap.size + 2) wr (vx us i) (rx X i)) ∧ (∀ i j, i < j → j < k → Sep (vx us i) (vx us j)) ∧ (∀ i, k ≤ i → i < 27 → vx us i = vx vs i) ∧ Below w.heap.size w wr ∧ w.heap.size + 2 ≤ wr.heap.size) (fun i _ => 27 - (intOf i).toNat)
  case atStart => exact ⟨0, rfl, by omega, vs, H.out.lv, hB0, hB1, fun i hi => by omega, fun i j _ hj => by omega, fun i _ _ => rfl, hacc, hsz⟩
  case round =>
    obtain ⟨k, rfl, hk, us, hl, hb0, hb1, hown, hsep, hold, hbel, hs⟩ := hrel
    have HL := Lib.hid hl; have HO := Lib.hid hown; have HS := Lib.hid hsep; have HD := Lib.hid hold
    clear hl hown hsep hold
    by_cases hlt : k < 27
    · obtain ⟨a, n, c, hv, hn, hc1, hc2, hI, h0⟩ := H.out.sl k hlt
      have c0 := hb0.cell (i := k) (by rw [HL.out]; exact hlt)
      have f0 := hb0.free k
      rw [HD.out k (Nat.le_refl _) hlt, hv] at c0
      have hI' := hI.below hbel
      have HN := Lib.hid hn; have H0 := Lib.hid h0; have HV := Lib.hid hv
      have i0 : (k : Int) < 27 := by omega
      have hn2 : n ≤ 17592186044416 := by have := HX.out k hlt; rw [HN.out] at this; exact this
      clear hn h0 hv hI hc1 hc2
      go_wp2_with (go_at_call 88; refine (slices_clone a n c (rx X k) _ hI' HN.out hn2 H0.out).mono ?_; rintro e w2 ⟨v2, rfl, hown2, hbel2⟩; obtain ⟨a2, n2, c2, rfl⟩ := hown2.form; have hb0' := hb0.below hbel2 hb0.lt; have hc0' := hb0'.cell (i := k) (by rw [HL.out]; exact hlt); have hf0' := hb0'.free k; have hb1' := hb1.below hbel2 hb1.lt)
      go_roundw
      case rel =>
        have hl' : us.length = 27 := HL.out
        have hbs := hbel2.size
        refine ⟨k + 1, by go_num, by omega, us.set k (.slice a2 n2 c2), by simpa using hl', hb0'.set k _, hb1'.other (by simp) _, fun i hi => ?_, fun i j hij hj => ?_, fun i h1 h2 => ?_, (below_then hbel (by omega) hbel2).setCell (Nat.le_refl _) _, by rw [size_setCell]; omega⟩
        · by_cases hik : i = k
          · subst hik
            rw [vx_set_eq (by omega)]
            exact (hown2.mono (by omega)).setCell (by simp) _
          · rw [vx_set_ne (fun h => hik h.symm)]
            exact ((HO.out i (by omega)).kept hbel2).setCell (by simp) _
        · by_cases hjk : j = k
          · subst hjk
            rw [vx_set_eq (by omega), vx_set_ne (by omega)]
            exact (HO.out i (by omega)).sep hown2
          · rw [vx_set_ne (fun h => hjk h.symm), vx_set_ne (by omega)]
            exact HS.out i j hij (by omega)
        · rw [vx_set_ne (by omega)]
          exact HD.out i (by omega) h2
      case measure => simp [intOf]; omega
    · obtain rfl : k = 27 := by omega
      have hsl : Slv us := by
        intro i hi
        obtain ⟨a, n, c, h⟩ := (HO.out i (by rw [HL.out] at hi; exact hi)).form
        exact ⟨a, n, c, h⟩
      have HSL := Lib.hid hsl
      clear hsl hlt
      go_wp2_with (first | (refine regs_load rfl _ rfl w.heap.size rfl us _ hb0 HL.out ?_) | (refine regs_store rfl _ _ rfl (w.heap.size + 1) rfl us rfl nil27 _ hb1 nil27_len HL.out HSL.out ?_; intro w2 hB2 hL2))
      refine bodyPost_ret (results_c Try.results87 rfl (regs_loadVar hB2 HL.out)) rfl ?_
      exact ⟨us, rfl, HL.out, fun i hi => ((HO.out i hi).left hL2 (by omega)).mono (by omega), HS.out, hL2.bel (by omega) hbel⟩

end Go.Proofs.Ytbgbcmfgncneiaa
