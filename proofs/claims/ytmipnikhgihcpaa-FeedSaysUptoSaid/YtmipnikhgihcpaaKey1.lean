/- Contracts of fairref.in, the letters, Check of P38. -/
import Derived.Test.YtmipnikhgihcpaaSlib
import Derived.Lib.ConvBytes
import Derived.Deep.RegionHeld3
import Derived.Deep.DeepCutAuto
import Derived.Deep.CutBlock
namespace Go.Proofs.Ytmipnikhgihcpaa
open Go.RowKit
set_option linter.unusedVariables false
set_option linter.unusedSimpArgs false

/-- the byte at a place of a string; the walk does not look behind this name -/
def bt (s : ByteArray) (j : Nat) : Int := ((s.data.toList.getD j 0).toNat : Int)
theorem bt_range (s : ByteArray) (j : Nat) : 0 ≤ bt s j ∧ bt s j ≤ 255 := by
  unfold bt
  have := (s.data.toList.getD j 0).toNat_lt
  omega
/-- is a number one of a text's bytes? -/
def inB (key : Int) (s : ByteArray) : Bool := s.data.toList.any fun b => (b.toNat : Int) == key
theorem inB_yes {key : Int} {s : ByteArray} {j : Nat} (hj : j < s.size) (h : bt s j = key) : inB key s = true := by
  unfold inB
  rw [List.any_eq_true]
  have hl : j < s.data.toList.length := by simpa using hj
  refine ⟨s.data.toList[j], List.getElem_mem hl, ?_⟩
  unfold bt at h
  simpa [List.getD, hj] using h
theorem inB_no {key : Int} {s : ByteArray} (h : ∀ j, j < s.size → bt s j ≠ key) : inB key s = false := by
  unfold inB
  rw [List.any_eq_false]
  intro x hx
  obtain ⟨j, hj, rfl⟩ := List.mem_iff_getElem.1 hx
  have hj2 : j < s.size := by simpa using hj
  have := h j hj2
  unfold bt at this
  simpa [List.getD, hj2] using this

theorem below_bytes (w : World) (e : TypeId) (s : ByteArray) : Below w.heap.size w (Lib.bytesWorld w e s) :=
  ⟨rfl, rfl, rfl, by rw [Lib.bytesWorld_size]; omega, fun k hk => Lib.bytesWorld_at_old w e s k hk⟩

theorem ref_in (key : Int) (s : ByteArray) (hs : s.size ≤ 4096) (w : World) :
    Calls Try.prog 121 #[.int .i64 key, .string s] w fun e w' => e = .returned (.bool (inB key s)) ∧ Below w.heap.size w w' := by
  have hcv := Lib.run_convert_string_bytes (P := Try.prog) w 9 146 5 s Try.underlying9 Try.underlying146 Try.underlying5
  have hb := below_bytes w 5 s
  have HC := Lib.hid (show ∀ j, j < s.size → (Lib.bytesWorld w 5 s).cell? ⟨w.heap.size, j, none⟩ = some (.int .u8 (bt s j)) from fun j hj => Lib.bytesWorld_cell w 5 s j hj)
  go_enter Try.func121, Try.ntmps121
  go_wp2
  generalize Lib.bytesWorld w 5 s = w1 at *
  clear hcv
  go_loopw [10] (fun v wr => ∃ k : Nat, v = .int .i64 (k : Int) ∧ k ≤ s.size ∧ (∀ j, j < k → bt s j ≠ key) ∧ w1 = wr) (fun v _ => s.size - (intOf v).toNat)
  case atStart => exact ⟨0, rfl, by omega, fun j hj => by omega, rfl⟩
  case round =>
    obtain ⟨k, rfl, hk, hno, rfl⟩ := hrel
    have HNO := Lib.hid hno
    clear hno
    by_cases hlt : k < s.size
    · have ck := HC.out k hlt
      obtain ⟨r0, r1⟩ := bt_range s k
      have i1 : (k : Int) < (s.size : Int) := by omega
      by_cases he : bt s k = key
      · have HE := Lib.hid (inB_yes hlt he)
        have g1 : (bt s k == key) = true := by simpa using he
        clear he
        go_wp2
        go_ret
        exact ⟨ret1_bool (by rw [HE.out]), hb⟩
      · have HE := Lib.hid he
        have g1 : (bt s k == key) = false := by simpa using he
        clear he
        go_wp2
        go_roundw
        case rel =>
          refine ⟨k + 1, by go_num, by omega, fun j hj => ?_, by first | rfl | trivial⟩
          rcases Nat.lt_succ_iff_lt_or_eq.1 hj with h | rfl
          · exact HNO.out j h
          · exact HE.out
        case measure => simp [intOf]; omega
    · have HE := Lib.hid (inB_no (key := key) (s := s) fun j hj => HNO.out j (by omega))
      go_wp2
      go_ret
      exact ⟨ret1_bool (by rw [HE.out]), hb⟩

def letB (c : Int) : Bool := decide ((97 ≤ c ∧ c ≤ 122) ∨ (65 ≤ c ∧ c ≤ 90))
theorem keys_letter (c : Int) (w : World) : Calls Try.prog 204 #[.int .i64 c] w fun e w' => e = .returned (.bool (letB c)) ∧ w = w' := by
  go_enter Try.func204, Try.ntmps204
  go_wp2
  all_goals
    go_ret
    exact ⟨ret1_bool (by rw [Bool.eq_iff_iff]; simp [letB]; omega), rfl⟩
theorem ref_isLetter (c : Int) (w : World) : Calls Try.prog 170 #[.int .i64 c] w fun e w' => e = .returned (.bool (letB c)) ∧ w = w' := by
  go_enter Try.func170, Try.ntmps170
  go_wp2
  all_goals
    go_ret
    exact ⟨ret1_bool (by rw [Bool.eq_iff_iff]; simp [letB]; omega), rfl⟩
def opB (c : Int) : Bool := decide (c = 100 ∨ c = 99 ∨ c = 121)
theorem keys_operator (c : Int) (w : World) : Calls Try.prog 205 #[.int .i64 c] w fun e w' => e = .returned (.bool (opB c)) ∧ w = w' := by
  go_enter Try.func205, Try.ntmps205
  go_wp2
  all_goals
    go_ret
    exact ⟨ret1_bool (by rw [Bool.eq_iff_iff]; simp [opB, *]), rfl⟩

def dgB (n key : Int) : Bool := decide ((49 ≤ key ∧ key ≤ 57) ∨ (key = 48 ∧ 0 < n))
def moB (key : Int) : Bool := decide (key = 104 ∨ key = 108 ∨ key = 48 ∨ key = 94 ∨ key = 36 ∨ key = 124 ∨ key = 119 ∨ key = 87 ∨ key = 98 ∨ key = 66 ∨ key = 101 ∨ key = 69 ∨ key = 37 ∨ key = 59 ∨ key = 44)
def fiB (key : Int) : Bool := decide (key = 102 ∨ key = 70 ∨ key = 116 ∨ key = 84)
def iaB (key : Int) : Bool := decide (key = 105 ∨ key = 97)
def obB (key : Int) : Bool := decide (key = 119 ∨ key = 87 ∨ key = 40 ∨ key = 41 ∨ key = 91 ∨ key = 93 ∨ key = 123 ∨ key = 125 ∨ key = 34 ∨ key = 39 ∨ key = 96)
def plB (key : Int) : Bool := decide (key = 73 ∨ key = 65 ∨ key = 115 ∨ key = 83 ∨ key = 67 ∨ key = 68 ∨ key = 120 ∨ key = 88 ∨ key = 112 ∨ key = 80 ∨ key = 89 ∨ key = 126 ∨ key = 117 ∨ key = 85 ∨ key = 46 ∨ key = 106 ∨ key = 107 ∨ key = 71 ∨ key = 47 ∨ key = 63 ∨ key = 110 ∨ key = 78 ∨ key = 82)
theorem inB_mem (key : Int) (s : ByteArray) : inB key s = true ↔ key ∈ s.data.toList.map fun b => (b.toNat : Int) := by
  unfold inB
  rw [List.any_eq_true, List.mem_map]
  constructor
  · rintro ⟨b, h1, h2⟩; exact ⟨b, h1, by simpa using h2⟩
  · rintro ⟨b, h1, h2⟩; exact ⟨b, h1, by simpa using h2⟩
theorem in_op (key : Int) : inB key ⟨#[100, 99, 121]⟩ = opB key := by rw [Bool.eq_iff_iff, inB_mem]; simp [opB]
theorem in_fi (key : Int) : inB key ⟨#[102, 70, 116, 84]⟩ = fiB key := by rw [Bool.eq_iff_iff, inB_mem]; simp [fiB]
theorem in_ia (key : Int) : inB key ⟨#[105, 97]⟩ = iaB key := by rw [Bool.eq_iff_iff, inB_mem]; simp [iaB]
theorem in_ob (key : Int) : inB key ⟨#[119, 87, 40, 41, 91, 93, 123, 125, 34, 39, 96]⟩ = obB key := by rw [Bool.eq_iff_iff, inB_mem]; simp [obB]
theorem in_mo (key : Int) : inB key ⟨#[104, 108, 48, 94, 36, 124, 119, 87, 98, 66, 101, 69, 37, 59, 44]⟩ = moB key := by rw [Bool.eq_iff_iff, inB_mem]; simp [moB]
theorem in_dg (key : Int) : inB key ⟨#[49, 50, 51, 52, 53, 54, 55, 56, 57]⟩ = decide (49 ≤ key ∧ key ≤ 57) := by rw [Bool.eq_iff_iff, inB_mem]; simp; omega
theorem in_pl (key : Int) : inB key ⟨#[105, 97, 73, 65, 115, 83, 67, 68, 120, 88, 112, 80, 89, 126, 117, 85, 46, 106, 107, 71, 47, 63, 110, 78, 82]⟩ = (iaB key || plB key) := by rw [Bool.eq_iff_iff, inB_mem]; simp [iaB, plB, or_assoc]

end Go.Proofs.Ytmipnikhgihcpaa
