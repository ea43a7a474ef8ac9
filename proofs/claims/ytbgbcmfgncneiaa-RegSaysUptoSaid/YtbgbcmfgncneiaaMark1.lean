/- Marks: whole arrays loaded and stored; contracts of mark.number, Set, Get. -/
import Derived.Test.YtbgbcmfgncneiaaMark0
import Derived.Test.YtbgbcmfgncneiaaRow
import Derived.Deep.DeepCutAuto
import Derived.Deep.CutBlock
namespace Go.Proofs.Ytbgbcmfgncneiaa
open Go.RowKit
set_option linter.unusedVariables false
set_option linter.unusedSimpArgs false

/-- the cells of a list of numbers -/
def mkA (xs : List Int) : Array Value := (xs.map (Value.int .i64)).toArray
def z26 : List Int := List.replicate 26 0
theorem z26_len : z26.length = 26 := rfl
theorem mkA_size (xs : List Int) : (mkA xs).size = xs.length := by simp [mkA]
theorem alloc_marks (w : World) : (Instr.alloc 24 true (.tuple #[])).run Try.prog w = .ok (.pointer (some ⟨w.heap.size, 0, none⟩)) (w.alloc (.cells (mkA z26) 24)) := by kernel_rfl
theorem build_marks (w : World) : (Instr.build 24 #[]).run Try.prog w = .ok (.agg (mkA z26)) w := by kernel_rfl
theorem guard_marks : Try.prog.eqGuardType Try.prog.depth 24 = false := by kernel_rfl
theorem eql_mk (xs : List Int) (hx : xs.length = 26) (w : World) : (binOp .eql 24 (.agg (mkA xs)) (.agg (mkA xs))).run Try.prog w = .ok (.bool true) w := run_eql_marks xs hx w
theorem neq_mk (xs : List Int) (hx : xs.length = 26) (w : World) : (binOp .neq 24 (.agg (mkA xs)) (.agg (mkA xs))).run Try.prog w = .ok (.bool false) w := run_neq_marks xs hx w
theorem index_mk (xs : List Int) (hx : xs.length = 26) (k : Nat) (hk : k < 26) (w : World) : (Instr.index 24 (.agg (mkA xs)) (.int .i64 (k : Int))).run Try.prog w = .ok (.int .i64 (ix xs k)) w := run_index_marks xs hx k hk w

/-- a block known whole, of a list of numbers -/
def BlkL (w : World) (B : Nat) (xs : List Int) (e : TypeId) : Prop := Blk w B (mkA xs) e
theorem BlkL.cell {w : World} {B : Nat} {xs : List Int} {e : TypeId} (h : BlkL w B xs e) {i : Nat} (hi : i < xs.length) : w.cell? ⟨B, i, none⟩ = some (.int .i64 (ix xs i)) := rowCell h hi
theorem BlkL.set {w : World} {B : Nat} {xs : List Int} {e : TypeId} (h : BlkL w B xs e) (i : Nat) (x : Int) : BlkL (w.setCell ⟨B, i, none⟩ (.int .i64 x)) B (xs.set i x) e := rowSet h i x
theorem BlkL.free {w : World} {B : Nat} {xs : List Int} {e : TypeId} (h : BlkL w B xs e) (i : Nat) : w.frozen? ⟨B, i, none⟩ = false := Blk.free h i
theorem BlkL.lt {w : World} {B : Nat} {xs : List Int} {e : TypeId} (h : BlkL w B xs e) : B < w.heap.size := Blk.lt h
theorem BlkL.alloc {w : World} {B : Nat} {xs : List Int} {e : TypeId} (h : BlkL w B xs e) (o : Obj) : BlkL (w.alloc o) B xs e := Blk.alloc h o
theorem BlkL.new (w : World) (xs : List Int) (e : TypeId) : BlkL (w.alloc (.cells (mkA xs) e)) w.heap.size xs e := Blk.new w _ e
theorem BlkL.other {w : World} {B : Nat} {xs : List Int} {e : TypeId} (h : BlkL w B xs e) {a : Addr} (ha : B ≠ a.block) (u : Value) : BlkL (w.setCell a u) B xs e := Blk.other h ha u
theorem BlkL.below {w w' : World} {B N : Nat} {xs : List Int} {e : TypeId} (h : BlkL w B xs e) (hb : Below N w w') (hN : B < N) : BlkL w' B xs e := Blk.below h hb hN
theorem BlkL.drewN {w : World} {B : Nat} {xs : List Int} {e : TypeId} (h : BlkL w B xs e) (n : Nat) : BlkL (w.drewN n) B xs e := h
theorem BlkL.drew {w : World} {B : Nat} {xs : List Int} {e : TypeId} (h : BlkL w B xs e) : BlkL w.drew B xs e := h

/-- what cells a store of many leaves -/
def ow (cs : Array Value) : Nat → List Value → Array Value
  | _, [] => cs
  | o, v :: r => ow (cs.setIfInBounds o v) (o + 1) r
theorem ow_size (vs : List Value) : ∀ (cs : Array Value) (o : Nat), (ow cs o vs).size = cs.size := by
  induction vs with
  | nil => intro cs o; rfl
  | cons v r ih => intro cs o; simp [ow, ih]
theorem ow_at (vs : List Value) : ∀ (cs : Array Value) (o i : Nat), i < cs.size → (ow cs o vs)[i]? = if o ≤ i ∧ i < o + vs.length then vs[i - o]? else cs[i]? := by
  induction vs with
  | nil => intro cs o i hi; simp [ow]; omega
  | cons v r ih =>
    intro cs o i hi
    simp only [ow]
    rw [ih _ _ _ (by simpa using hi)]
    by_cases h1 : o + 1 ≤ i ∧ i < o + 1 + r.length
    · rw [if_pos h1, if_pos (by simp; omega)]
      rw [show i - o = (i - (o + 1)) + 1 from by omega]
      simp
    · rw [if_neg h1]
      by_cases h2 : o = i
      · subst h2
        rw [if_pos (by simp)]
        simp [hi]
      · rw [if_neg (by simp; omega)]
        simp [Array.getElem?_setIfInBounds, h2]
theorem ow_all {cs : Array Value} {vs : List Value} (h : cs.size = vs.length) : ow cs 0 vs = vs.toArray := by
  apply Array.ext_getElem?
  intro i
  by_cases hi : i < cs.size
  · rw [ow_at vs cs 0 i hi, if_pos (by omega)]; simp
  · rw [Array.getElem?_eq_none (by rw [ow_size]; omega), Array.getElem?_eq_none (by simp; omega)]
theorem Blk.setCells {B : Nat} {e : TypeId} (vs : List Value) : ∀ {w : World} {cs : Array Value} (o : Nat), Blk w B cs e → Blk (w.setCells B o vs) B (ow cs o vs) e := by
  induction vs with
  | nil => intro w cs o h; exact h
  | cons v r ih => intro w cs o h; exact ih (o + 1) (h.set o v)
theorem Blk.setCellsOther {B B' : Nat} {e : TypeId} {cs : Array Value} (hne : B ≠ B') (vs : List Value) : ∀ {w : World} (o : Nat), Blk w B cs e → Blk (w.setCells B' o vs) B cs e := by
  induction vs with
  | nil => intro w o h; exact h
  | cons v r ih => intro w o h; exact ih (o + 1) (h.other (a := ⟨B', o, none⟩) hne v)
theorem below_setCells {N B : Nat} {a : World} (hN : N ≤ B) (vs : List Value) : ∀ {w : World} (o : Nat), Below N a w → Below N a (w.setCells B o vs) := by
  induction vs with
  | nil => intro w o h; exact h
  | cons v r ih => intro w o h; exact ih (o + 1) (h.setCell (p := ⟨B, o, none⟩) hN v)
theorem size_setCells {B : Nat} (vs : List Value) : ∀ (w : World) (o : Nat), (w.setCells B o vs).heap.size = w.heap.size := by
  induction vs with
  | nil => intro w o; rfl
  | cons v r ih => intro w o; simp only [World.setCells]; rw [ih]; exact size_setCell _ _ _

/-- what is left as it was by a store of a whole array into block B -/
structure Left (B : Nat) (w w' : World) : Prop where
  blk : ∀ {B' : Nat} {cs : Array Value} {e : TypeId}, B' ≠ B → Blk w B' cs e → Blk w' B' cs e
  bel : ∀ {N : Nat} {a : World}, N ≤ B → Below N a w → Below N a w'
  size : w'.heap.size = w.heap.size
theorem Left.blkL {B : Nat} {w w' : World} (h : Left B w w') {B' : Nat} {xs : List Int} {e : TypeId} (hne : B' ≠ B) (hb : BlkL w B' xs e) : BlkL w' B' xs e := h.blk hne hb

/-- a whole array is loaded -/
theorem marks_load {ops : Array Oper} {rest : List Oper} {op : Oper} {a : Act} {w : World} {Q : Exit → Act → World → Prop} (hgd : op.guard = none) (x : Operand) (ho : op.op = .load 24 x)
    (B : Nat) (hx : a.eval x = .pointer (some ⟨B, 0, none⟩)) (xs : List Int) (e : TypeId) (hB : BlkL w B xs e) (hl : xs.length = 26)
    (h : wpList Try.prog ops Q rest (a.put op.dst (.agg (mkA xs))) w) : wpList Try.prog ops Q (op :: rest) a w :=
  wpList_load_row hgd 24 x ho B hx e (mkA xs) (0, 0) _ hB under_marks rfl (by rw [mkA_size, hl]; exact size_marks) h
/-- .. by a guarded operation that is wanted -/
theorem marks_load_g {ops : Array Oper} {rest : List Oper} {op : Oper} {a : Act} {w : World} {Q : Exit → Act → World → Prop} (hw : Region.wanted op (yielded ops a.tmps) = true) (x : Operand) (ho : op.op = .load 24 x)
    (B : Nat) (hx : a.eval x = .pointer (some ⟨B, 0, none⟩)) (xs : List Int) (e : TypeId) (hB : BlkL w B xs e) (hl : xs.length = 26)
    (h : wpList Try.prog ops Q rest (a.put op.dst (.agg (mkA xs))) w) : wpList Try.prog ops Q (op :: rest) a w :=
  wpList_step fun K hK => by
    rw [if_pos hw]
    exact wp_load_row 24 x ho B hx e (mkA xs) (0, 0) _ hB under_marks rfl (by rw [mkA_size, hl]; exact size_marks) (hK _ _ h)
theorem guard_run (b : BinOp) (x y : Operand) (c d : Array Value) (w : World) : (eqGuard b 24 x y (.agg c) (.agg d)).run Try.prog w = .ok () w := by
  cases b <;> simp [eqGuard, guard_marks, go_sem]
/-- two arrays that are one are compared -/
theorem marks_neq {ops : Array Oper} {rest : List Oper} {op : Oper} {a : Act} {w : World} {Q : Exit → Act → World → Prop} (hw : Region.wanted op (yielded ops a.tmps) = true) (x y : Operand) (ty : TypeId) (ho : op.op = .binOp .neq 24 x y ty)
    (xs : List Int) (hx : a.eval x = .agg (mkA xs)) (hy : a.eval y = .agg (mkA xs)) (hl : xs.length = 26)
    (h : wpList Try.prog ops Q rest (a.put op.dst (.bool false)) w) : wpList Try.prog ops Q (op :: rest) a w :=
  wpList_step fun K hK => by
    rw [if_pos hw]
    unfold Oper.wp execOp
    simp only [ho, hx, hy, Sem.run_bind, Sem.run_pure, guard_run, neq_mk xs hl, Result.andThen_ok]
    exact hK _ _ h
theorem marks_eql {ops : Array Oper} {rest : List Oper} {op : Oper} {a : Act} {w : World} {Q : Exit → Act → World → Prop} (hw : Region.wanted op (yielded ops a.tmps) = true) (x y : Operand) (ty : TypeId) (ho : op.op = .binOp .eql 24 x y ty)
    (xs : List Int) (hx : a.eval x = .agg (mkA xs)) (hy : a.eval y = .agg (mkA xs)) (hl : xs.length = 26)
    (h : wpList Try.prog ops Q rest (a.put op.dst (.bool true)) w) : wpList Try.prog ops Q (op :: rest) a w :=
  wpList_step fun K hK => by
    rw [if_pos hw]
    unfold Oper.wp execOp
    simp only [ho, hx, hy, Sem.run_bind, Sem.run_pure, guard_run, eql_mk xs hl, Result.andThen_ok]
    exact hK _ _ h
/-- a whole array is stored -/
theorem marks_store {ops : Array Oper} {rest : List Oper} {op : Oper} {a : Act} {w : World} {Q : Exit → Act → World → Prop} (hgd : op.guard = none) (x y : Operand) (ho : op.op = .store 24 x y)
    (B : Nat) (hx : a.eval x = .pointer (some ⟨B, 0, none⟩)) (ys : List Int) (hy : a.eval y = .agg (mkA ys)) (xs : List Int) (e : TypeId) (hB : BlkL w B xs e) (hl : xs.length = 26) (hl2 : ys.length = 26)
    (h : ∀ w', BlkL w' B ys e → Left B w w' → wpList Try.prog ops Q rest (a.put op.dst undef) w') : wpList Try.prog ops Q (op :: rest) a w := by
  refine wpList_store_mid hgd 24 x y ho B 0 (mkA ys) hx hy ?_ (by rw [mkA_size, hl2]; exact size_marks) ?_ (h _ ?_ ⟨fun hne hb => hb.setCellsOther hne _ 0, fun hN hb => below_setCells hN _ 0 hb, size_setCells _ _ _⟩)
  · intro j hj
    rw [mkA_size] at hj
    rw [Nat.zero_add]
    exact ⟨by rw [hB.cell (by omega)]; rfl, hB.free j⟩
  · refine all_oneCell_toArray ?_
    intro v hv
    obtain ⟨i, _, rfl⟩ := List.mem_map.1 hv
    rfl
  · have := hB.setCells (mkA ys).toList 0
    rw [ow_all (by simp [mkA_size, hl, hl2])] at this
    exact this

def nameX (name : Int) : Int := if 97 ≤ name ∧ name ≤ 122 then name - 97 else -1
theorem nameX_in {name : Int} (h : 97 ≤ name ∧ name ≤ 122) : nameX name = name - 97 := if_pos h
theorem nameX_out {name : Int} (h : ¬ (97 ≤ name ∧ name ≤ 122)) : nameX name = -1 := if_neg h
theorem mark_number (name : Int) (w : World) :
    Calls Try.prog 84 #[.int .i64 name] w fun e w' => e = .returned (.int .i64 (nameX name)) ∧ w = w' := by
  by_cases h : 97 ≤ name ∧ name ≤ 122
  · rw [nameX_in h]
    obtain ⟨h1, h2⟩ := h
    go_enter Try.func84, Try.ntmps84
    go_wp2
    go_ret
    exact ⟨rfl, rfl⟩
  · rw [nameX_out h]
    rcases (show name < 97 ∨ 122 < name by omega) with h | h
    all_goals
      go_enter Try.func84, Try.ntmps84
      go_wp2
      all_goals
        go_ret
        exact ⟨rfl, rfl⟩

def SetPost (ys : List Int) (E : Int) (w : World) (e : Ending) (w' : World) : Prop := e = .returned (.tuple #[.agg (mkA ys), .int .i64 E]) ∧ Below w.heap.size w w'

theorem marks_loadVar {w : World} {B : Nat} {xs : List Int} {e : TypeId} (hB : BlkL w B xs e) (hl : xs.length = 26) : (loadVar 24 ⟨B, 0, none⟩).run Try.prog w = .ok (.agg (mkA xs)) w :=
  run_loadVar_row w B e 24 (mkA xs) (0, 0) _ hB under_marks rfl (by rw [mkA_size, hl]; exact size_marks)
theorem results_ct {fn : Func} {s t : Tmp} {T : TypeId} (h : fn.results = #[.cell s T, .tmp t]) {tmps : Array Value} {P : Program} {w : World} {ad : Addr} {v : Value} (hp : tmps.getD s undef = .pointer (some ad)) (hl : (loadVar T ad).run P w = .ok v w) :
    (results fn tmps).run P w = .ok (.tuple #[v, tmps.getD t undef]) w := by
  have hp' : tmps[s]?.getD undef = .pointer (some ad) := by simpa using hp
  simp [results, h, hp', asAddr, hl]
def setX (xs : List Int) (name k : Int) : List Int := if ¬ (97 ≤ name ∧ name ≤ 122) then z26 else if k < 0 ∨ 4096 < k then z26 else xs.set (name - 97).toNat (k + 1)
def setE (name k : Int) : Int := if ¬ (97 ≤ name ∧ name ≤ 122) then 9 else if k < 0 ∨ 4096 < k then 1 else 0
def getV (xs : List Int) (name : Int) : Int := if ¬ (97 ≤ name ∧ name ≤ 122) then 0 else if ix xs (name - 97).toNat < 1 ∨ 4097 < ix xs (name - 97).toNat then 0 else ix xs (name - 97).toNat - 1
def getE (xs : List Int) (name : Int) : Int := if ¬ (97 ≤ name ∧ name ≤ 122) then 9 else if ix xs (name - 97).toNat < 1 ∨ 4097 < ix xs (name - 97).toNat then 6 else 0

set_option maxRecDepth 100000 in
set_option maxHeartbeats 1000000 in
theorem mark_set_key (xs : List Int) (name k : Int) (w : World) (hx : xs.length = 26) (hn : ¬ (97 ≤ name ∧ name ≤ 122)) :
    Calls Try.prog 18 #[.agg (mkA xs), .int .i64 name, .int .i64 k] w (SetPost z26 9 w) := by
  have HX := Lib.hid (nameX_out hn)
  clear hx hn
  have hal := alloc_marks
  have hB1 := BlkL.new (w.alloc (.cells (mkA xs) 24)) z26 24
  have hacc := below2 w (.cells (mkA xs) 24) (.cells (mkA z26) 24)
  rw [World.size_alloc] at hB1
  go_enter Try.func18, Try.ntmps18
  go_wp2_with (first | (go_at_call 84; refine (mark_number _ _).mono ?_; rintro e w1 ⟨rfl, rfl⟩; rw [HX.out]) | (refine marks_store rfl _ _ rfl (w.heap.size + 1) rfl z26 rfl z26 _ hB1 rfl rfl ?_; intro w2 hB2 hL2))
  have hld := marks_loadVar hB2 rfl
  exact bodyPost_ret (results_ct Try.results18 rfl hld) rfl ⟨rfl, hL2.bel (by omega) hacc⟩

set_option maxRecDepth 100000 in
set_option maxHeartbeats 1000000 in
theorem mark_set_arg (xs : List Int) (name k : Int) (w : World) (hx : xs.length = 26) (h1 : 97 ≤ name) (h2 : name ≤ 122) (hk : k < 0 ∨ 4096 < k) :
    Calls Try.prog 18 #[.agg (mkA xs), .int .i64 name, .int .i64 k] w (SetPost z26 1 w) := by
  have HX := Lib.hid (nameX_in ⟨h1, h2⟩)
  clear hx
  have hal := alloc_marks
  have hB1 := BlkL.new (w.alloc (.cells (mkA xs) 24)) z26 24
  have hacc := below2 w (.cells (mkA xs) 24) (.cells (mkA z26) 24)
  rw [World.size_alloc] at hB1
  have i0 : 0 ≤ name - 97 := by omega
  rcases hk with hk | hk
  all_goals
    go_enter Try.func18, Try.ntmps18
    go_wp2_with (first | (go_at_call 84; refine (mark_number _ _).mono ?_; rintro e w1 ⟨rfl, rfl⟩; rw [HX.out]) | (refine marks_store rfl _ _ rfl (w.heap.size + 1) rfl z26 rfl z26 _ hB1 rfl rfl ?_; intro w2 hB2 hL2))
    have hld := marks_loadVar hB2 rfl
    exact bodyPost_ret (results_ct Try.results18 rfl hld) rfl ⟨rfl, hL2.bel (by omega) hacc⟩

set_option maxRecDepth 100000 in
set_option maxHeartbeats 1000000 in
theorem mark_set_ok (xs : List Int) (j : Nat) (k : Int) (w : World) (hx : xs.length = 26) (h1 : j < 26) (h2 : 0 ≤ k) (h3 : k ≤ 4096) :
    Calls Try.prog 18 #[.agg (mkA xs), .int .i64 ((j : Int) + 97), .int .i64 k] w (SetPost (xs.set j (k + 1)) 0 w) := by
  have HX := Lib.hid (show nameX ((j : Int) + 97) = (j : Int) by rw [nameX_in (by omega)]; omega)
  have HL := Lib.hid hx
  have HL2 := Lib.hid (show (xs.set j (k + 1)).length = 26 by simpa using hx)
  clear hx
  have hal := alloc_marks
  have hB0 := (BlkL.new w xs 24).alloc (.cells (mkA z26) 24)
  have hB1 := BlkL.new (w.alloc (.cells (mkA xs) 24)) z26 24
  have hacc := below2 w (.cells (mkA xs) 24) (.cells (mkA z26) 24)
  rw [World.size_alloc] at hB1
  have i0 : (j : Int) < 26 := by omega
  go_enter Try.func18, Try.ntmps18
  go_upto_region 1 with fail
  change Code.wp _ _ _ _ ((w.alloc (.cells (mkA xs) 24)).alloc (.cells (mkA z26) 24))
  generalize (w.alloc (.cells (mkA xs) 24)).alloc (.cells (mkA z26) 24) = w1 at *
  have c0 := hB0.cell (i := j) (by rw [HL.out]; exact h1)
  have f0 := hB0.free j
  have hS := hB0.set j (k + 1)
  have hB1' := hB1.other (a := ⟨w.heap.size, j, none⟩) (by simp) (.int .i64 (k + 1))
  have hacc' := hacc.setCell (p := ⟨w.heap.size, j, none⟩) (Nat.le_refl _) (.int .i64 (k + 1))
  go_wp2_with (first | (go_at_call 84; refine (mark_number _ _).mono ?_; rintro e w1 ⟨rfl, rfl⟩; rw [HX.out]) | (refine marks_load rfl _ rfl w.heap.size rfl (xs.set j (k + 1)) _ hS HL2.out ?_) | (refine marks_store rfl _ _ rfl (w.heap.size + 1) rfl (xs.set j (k + 1)) rfl z26 _ hB1' rfl HL2.out ?_; intro w2 hB2 hL2))
  have hld := marks_loadVar hB2 HL2.out
  exact bodyPost_ret (results_ct Try.results18 rfl hld) rfl ⟨rfl, hL2.bel (by omega) hacc'⟩

theorem mark_set (xs : List Int) (name k : Int) (w : World) (hx : xs.length = 26) :
    Calls Try.prog 18 #[.agg (mkA xs), .int .i64 name, .int .i64 k] w (SetPost (setX xs name k) (setE name k) w) := by
  by_cases hn : 97 ≤ name ∧ name ≤ 122
  · by_cases hk : k < 0 ∨ 4096 < k
    · rw [setX, setE, if_neg (not_not_intro hn), if_neg (not_not_intro hn), if_pos hk, if_pos hk]
      exact mark_set_arg xs name k w hx hn.1 hn.2 hk
    · rw [setX, setE, if_neg (not_not_intro hn), if_neg (not_not_intro hn), if_neg hk, if_neg hk]
      obtain ⟨j, hj⟩ : ∃ j : Nat, name = (j : Int) + 97 := ⟨(name - 97).toNat, by omega⟩
      subst hj
      rw [show ((j : Int) + 97 - 97).toNat = j from by omega]
      exact mark_set_ok xs j k w hx (by omega) (by omega) (by omega)
  · rw [setX, setE, if_pos hn, if_pos hn]
    exact mark_set_key xs name k w hx hn

def GetPost (v E : Int) (w : World) (e : Ending) (w' : World) : Prop := e = .returned (.tuple #[.int .i64 v, .int .i64 E]) ∧ Below w.heap.size w w'
set_option maxRecDepth 100000 in
theorem mark_get (xs : List Int) (name : Int) (w : World) (hx : xs.length = 26) :
    Calls Try.prog 19 #[.agg (mkA xs), .int .i64 name] w (GetPost (getV xs name) (getE xs name) w) := by
  by_cases hn : 97 ≤ name ∧ name ≤ 122
  · obtain ⟨j, hj⟩ : ∃ j : Nat, name = (j : Int) + 97 := ⟨(name - 97).toNat, by omega⟩
    subst hj
    have h1 : j < 26 := by omega
    have hV : getV xs ((j : Int) + 97) = if ix xs j < 1 ∨ 4097 < ix xs j then 0 else ix xs j - 1 := by
      rw [getV, if_neg (not_not_intro hn), show ((j : Int) + 97 - 97).toNat = j from by omega]
    have hE : getE xs ((j : Int) + 97) = if ix xs j < 1 ∨ 4097 < ix xs j then 6 else 0 := by
      rw [getE, if_neg (not_not_intro hn), show ((j : Int) + 97 - 97).toNat = j from by omega]
    have HV := Lib.hid hV
    have HE := Lib.hid hE
    have HX := Lib.hid (show nameX ((j : Int) + 97) = (j : Int) by rw [nameX_in (by omega)]; omega)
    have hB0 := BlkL.new w xs 24
    have hacc := below1 w (.cells (mkA xs) 24)
    have c0 := hB0.cell (i := j) (by rw [hx]; exact h1)
    have i0 : (j : Int) < 26 := by omega
    clear hx hV hE hn
    by_cases hb : ix xs j < 1 ∨ 4097 < ix xs j
    · have e1 := HV.out
      have e2 := HE.out
      rw [if_pos hb] at e1 e2
      have HV2 := Lib.hid e1
      have HE2 := Lib.hid e2
      clear e1 e2 HV HE
      rcases hb with hb | hb
      all_goals
        go_enter Try.func19, Try.ntmps19
        go_wp2_with (first | (go_at_call 84; refine (mark_number _ _).mono ?_; rintro e w1 ⟨rfl, rfl⟩; rw [HX.out]))
        all_goals
          go_ret2
          exact ⟨ret2_int HV2.out.symm HE2.out.symm, hacc⟩
    · have e1 := HV.out
      have e2 := HE.out
      rw [if_neg hb] at e1 e2
      have HV2 := Lib.hid e1
      have HE2 := Lib.hid e2
      have b1 : 1 ≤ ix xs j := by omega
      have b2 : ix xs j ≤ 4097 := by omega
      clear e1 e2 HV HE hb
      go_enter Try.func19, Try.ntmps19
      go_wp2_with (first | (go_at_call 84; refine (mark_number _ _).mono ?_; rintro e w1 ⟨rfl, rfl⟩; rw [HX.out]))
      go_ret2
      exact ⟨ret2_int HV2.out.symm HE2.out.symm, hacc⟩
  · have HV := Lib.hid (show getV xs name = 0 by rw [getV, if_pos hn])
    have HE := Lib.hid (show getE xs name = 9 by rw [getE, if_pos hn])
    have HX := Lib.hid (nameX_out hn)
    have hacc := below1 w (.cells (mkA xs) 24)
    clear hx hn
    go_enter Try.func19, Try.ntmps19
    go_wp2_with (first | (go_at_call 84; refine (mark_number _ _).mono ?_; rintro e w1 ⟨rfl, rfl⟩; rw [HX.out]))
    go_ret2
    exact ⟨ret2_int HV.out.symm HE.out.symm, hacc⟩

end Go.Proofs.Ytbgbcmfgncneiaa
