/- Contract of utf.Text. -/
import Derived.Test.YtmipnikhgihcpaaUtf6
import Derived.Laws.Cover4
namespace Go.Proofs.Ytmipnikhgihcpaa
open Go.RowKit
set_option linter.unusedVariables false
set_option linter.unusedSimpArgs false

theorem info_i32 : (Try.prog.info? 21).map (fun i => (i.zero, i.size, i.bytes)) = some (some (.int .i32 0), 1, 4) := by kernel_rfl
/-- runes in a row of the call's own -/
def ROwn (base : Nat) (w : World) (v : Value) (xs : List Int) : Prop := w.ownsRow base 21 1 v xs.length (xs.map (Value.int .i32))
theorem ROwn.alloc {base : Nat} {w : World} {v : Value} {xs : List Int} (h : ROwn base w v xs) (o : Obj) : ROwn base (w.alloc o) v xs := World.ownsRow.alloc h o
theorem rown_made (w : World) (base c : Nat) (hb : base ≤ w.heap.size) (hc : c ≤ 17592186044416) : ROwn base (w.alloc (.cells (madeCells #[.int .i32 0] c) 21)) (.slice (some ⟨w.heap.size, 0, none⟩) 0 c) [] :=
  World.ownsRow_made w _ c hb (by unfold maxLen; omega) (by rw [size_madeCells, Nat.mul_one])
theorem make_i32 (l c : Nat) (h : l ≤ c) (hc : c ≤ 17592186044416) (w : World) :
    (Instr.makeSlice 152 (.int .i64 (l : Int)) (.int .i64 (c : Int))).run Try.prog w = .ok (.slice (some ⟨w.heap.size, 0, none⟩) l c) (w.alloc (.cells (madeCells #[.int .i32 0] c) 21)) := by
  obtain ⟨i0, hi, hz0, hz1, hz2⟩ := info_parts info_i32
  have := run_make (P := Try.prog) w 152 21 i0 (.int .i32 0) Try.underlying152 hi hz0 .i64 .i64 l c (by omega) (by omega) (by rw [hz2]; omega) (by omega)
  rw [hz1, Int.toNat_natCast, Int.toNat_natCast, Nat.mul_one] at this
  exact this
theorem rapp1 {ops : Array Oper} {rest : List Oper} {o : Oper} {a : Act} {Q : Exit → Act → World → Prop} {w : World} (hgd : o.guard = none) (s x : Operand)
    (ho : o.op = .call { callee := .builtin .append, args := #[s, x], argTypes := #[152, 152] })
    (base : Nat) (v : Value) (xs : List Int) (y : Int) (ad : Addr) (hs : a.eval s = v) (hx : a.eval x = .slice (some ad) 1 1)
    (hown : ROwn base w v xs) (hc : w.cell? ad = some (.int .i32 y)) (hl : xs.length < 17592186044416) (hbase : base ≤ w.heap.size)
    (h : ∀ v' w', ROwn base w' v' (xs ++ [y]) → w.grownBy w' v.ownBlock → wpList Try.prog ops Q rest (a.put o.dst v') w') :
    wpList Try.prog ops Q (o :: rest) a w := by
  obtain ⟨i0, hi, hz0, hz1, hz2⟩ := info_parts info_i32
  refine wpList_append_own w hgd s x 152 ho base 21 i0 (.int .i32 0) 1 4 Try.underlying152 hi hz0 hz1 hz2 rfl (by decide) v xs.length _ hs hown ad 1 1 [.int .i32 y] hx rfl ?_ ?_ ?_ ?_ hbase ?_
  · intro j u hj
    match j with
    | 0 => simp at hj; subst hj; simpa [Addr.add] using hc
    | j + 1 => simp at hj
  · intro u hu; simp at hu; subst hu; rfl
  · unfold maxLen; omega
  · omega
  · intro v' w' h1 h2 _
    refine h v' w' ?_ h2
    unfold ROwn
    simpa using h1
theorem ROwn.conv {base : Nat} {w : World} {v : Value} {xs : List Int} (h : ROwn base w v xs) : (convert 152 9 v).run Try.prog w = .ok (.string (runesBytes xs)) w := by
  rcases h.2 with ⟨rfl, h0⟩ | ⟨g, cap, cur, rfl, hb', hgg, rest⟩
  · obtain rfl : xs = [] := List.eq_nil_of_length_eq_zero h0
    exact run_convert_runes_nil w _ _ _ _ _ Try.underlying152 Try.underlying21 Try.underlying9
  · have := run_convert_runes (P := Try.prog) w 152 9 21 ⟨g, 0, none⟩ xs.length cap xs (Nat.le_refl _) Try.underlying152 Try.underlying21 Try.underlying9 (fun j hj => World.ownsRow.cells h (g := g) rfl j _ (by simp [hj, List.getD]))
    rwa [List.take_length] at this
theorem ROwn.form {base : Nat} {w : World} {v : Value} {xs : List Int} (h : ROwn base w v xs) : ∃ a c, v = .slice a xs.length c := by
  rcases h.2 with ⟨rfl, h0⟩ | ⟨g, cap, cur, rfl, hb', hgg, rest⟩
  · exact ⟨none, 0, by rw [h0]⟩
  · exact ⟨_, cap, rfl⟩
theorem ROwn.row {base : Nat} {w : World} {v : Value} {xs : List Int} (h : ROwn base w v xs) : ∀ k, v.ownBlock = some k → base ≤ k := fun k hk => (World.ownsRow.lt h k hk).1

def okL (l : List Int) : Bool := l.all scaB
def txtB (l : List Int) : ByteArray := if okL l = true then runesBytes l else ⟨#[]⟩
def txtE (l : List Int) : Int := if okL l = true then 0 else 1
theorem okL_no {l : List Int} {k : Nat} (hk : k < l.length) (h : scaB (ix l k) = false) : okL l = false := by
  unfold okL
  rw [List.all_eq_false]
  exact ⟨ix l k, ix_mem hk, by rw [h]; simp⟩
theorem okL_yes {l : List Int} (h : ∀ k, k < l.length → scaB (ix l k) = true) : okL l = true := by
  unfold okL
  rw [List.all_eq_true]
  intro x hx
  obtain ⟨j, hj, rfl⟩ := List.mem_iff_getElem.1 hx
  have := h j hj
  rwa [ix_eq hj] at this
theorem sca_bd {c : Int} (h : scaB c = true) : 0 ≤ c ∧ c ≤ 1114111 := by
  simp [scaB] at h; omega
theorem take_ix {l : List Int} {k : Nat} (hk : k < l.length) : l.take (k + 1) = l.take k ++ [ix l k] := by
  rw [List.take_add_one, ix_eq hk, List.getElem?_eq_getElem hk]; rfl
def TxtPost (l : List Int) (w : World) (e : Ending) (w' : World) : Prop := e = .returned (.tuple #[.string (txtB l), .int .i64 (txtE l)]) ∧ Below w.heap.size w w'

set_option maxRecDepth 100000 in
set_option maxHeartbeats 2000000 in
theorem utf_text (a : Option Addr) (n c : Nat) (l : List Int) (w : World) (hx : Ints w a l) (hn : l.length = n) (hl : n ≤ 1048576) : Calls Try.prog 21 #[.slice a n c] w (TxtPost l w) := by
  have HN := Lib.hid hn; clear hn
  have hmk := make_i32 0 n (by omega) (by omega) w
  rw [show ((0 : Nat) : Int) = 0 from rfl] at hmk
  have hown0 := rown_made w w.heap.size n (Nat.le_refl _) (by omega)
  have hb0 := below1 w (.cells (madeCells #[.int .i32 0] n) 21)
  go_enter Try.func21, Try.ntmps21
  go_wp2
  generalize w.alloc (.cells (madeCells #[.int .i32 0] n) 21) = w1 at *
  go_loopw [12, 4] (fun i v wr => ∃ k : Nat, i = .int .i64 (k : Int) ∧ k ≤ n ∧ (∀ j, j < k → scaB (ix l j) = true) ∧ ROwn w.heap.size wr v (l.take k) ∧ Below w.heap.size w wr) (fun i _ _ => n - (intOf i).toNat)
  case atStart => exact ⟨0, rfl, by omega, fun j hj => by omega, hown0, hb0⟩
  case round =>
    obtain ⟨k, rfl, hk, hsc, hown, hb⟩ := hrel
    have HSC := Lib.hid hsc
    clear hsc
    by_cases hlt : k < n
    · have i1 : (k : Int) < (n : Int) := by omega
      have hkl : k < l.length := by rw [HN.out]; exact hlt
      obtain ⟨bb, oo, rfl, hc1⟩ := (hx.below hb).at (k := k) hkl
      have e1 := hc1 k hkl
      have HX := Lib.hid hx
      have HT := Lib.hid (take_ix hkl)
      have HS := Lib.hid (utf_scalar (ix l k))
      have HNO := Lib.hid (fun h => okL_no hkl h)
      have hlen : (l.take k).length = k := by rw [List.length_take]; omega
      obtain ⟨z, hz⟩ : ∃ z, scaB (ix l k) = z := ⟨_, rfl⟩
      have HZ := Lib.hid hz
      rw [hz] at HS
      clear hc1 hx hkl
      rcases z with _ | _
      · clear hz
        go_wp2_with fail
        refine (HS.out _).mono ?_
        rintro e w3 ⟨rfl, rfl⟩
        go_wp2
        go_ret2
        refine ⟨?_, hb⟩
        unfold txtB txtE
        rw [HNO.out HZ.out]
        rfl
      · obtain ⟨b1, b2⟩ := sca_bd hz
        have hzz := hb.size
        have HSC2 := Lib.hid (show ∀ j, j < k + 1 → scaB (ix l j) = true from fun j hj => by
          rcases Nat.lt_succ_iff_lt_or_eq.1 hj with h | rfl
          · exact HSC.out j h
          · exact HZ.out)
        clear hz
        generalize ix l k = y at *
        go_wp2_with fail
        refine (HS.out _).mono ?_
        rintro e w3 ⟨rfl, rfl⟩
        go_wp2_with (at_builtin; refine rapp1 rfl _ _ rfl w.heap.size _ (l.take k) y _ rfl rfl (hown.alloc _) ((Blk.new _ #[.int .i32 y] 21).one.1) (by omega) (size_alloc_le hzz _) ?_; intro v4 w4 hown4 hgrow4)
        go_roundw
        case rel => exact ⟨k + 1, by go_num, by omega, HSC2.out, by rw [HT.out]; exact hown4, (hb.alloc hzz _).grown hgrow4 (size_alloc_le hzz _) hown.row⟩
        case measure => simp [intOf]; omega
    · obtain rfl : k = n := by omega
      have HT := Lib.hid (show l.take k = l by rw [← HN.out]; exact List.take_length)
      rw [HT.out] at hown
      have hcv := hown.conv
      have HOK := Lib.hid (okL_yes (l := l) (fun j hj => HSC.out j (by rw [HN.out] at hj; exact hj)))
      obtain ⟨va, vc, rfl⟩ := hown.form
      go_wp2
      go_ret2
      refine ⟨?_, hb⟩
      unfold txtB txtE
      rw [HOK.out]
      rfl

end Go.Proofs.Ytmipnikhgihcpaa
