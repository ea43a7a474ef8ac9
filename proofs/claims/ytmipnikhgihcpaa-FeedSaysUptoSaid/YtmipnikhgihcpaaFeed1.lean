/- The machine of feed: plain; contracts of second, whole, fits. -/
import Derived.Test.YtmipnikhgihcpaaUtfLaw
import Derived.Test.YtmipnikhgihcpaaVRow
namespace Go.Proofs.Ytmipnikhgihcpaa
open Go.RowKit
set_option linter.unusedVariables false
set_option linter.unusedSimpArgs false

def secLo (b : Int) : Int := if b = 224 then 160 else if b = 240 then 144 else 128
def secHi (b : Int) : Int := if b = 237 then 159 else if b = 244 then 143 else 191
def whV (b : Int) : Int := if b < 128 then 1 else if 194 ≤ b ∧ b ≤ 223 then 2 else if 224 ≤ b ∧ b ≤ 239 then 3 else if 240 ≤ b ∧ b ≤ 244 then 4 else 0
def fitB (A : List Int) (b : Int) : Bool := if A.length = 1 then decide (secLo (ix A 0) ≤ b ∧ b ≤ secHi (ix A 0)) else decide (128 ≤ b ∧ b ≤ 191)
/-- bytes as a string -/
def mkB (A : List Int) : ByteArray := ⟨(A.map fun x => UInt8.ofNat x.toNat).toArray⟩
/-- all are bytes -/
def Byt (A : List Int) : Prop := ∀ x ∈ A, 0 ≤ x ∧ x < 256
structure MS where
  ah : List Int
  out : List Int
def MS.brk (m : MS) : MS := if m.ah = [] then m else ⟨[], m.out ++ [65533]⟩
def MS.put (m : MS) (b : Int) : MS :=
  if m.ah = [] ∧ whV b = 0 then ⟨[], m.out ++ [65533]⟩
  else if ((m.ah.length + 1 : Nat) : Int) = whV (ix (m.ah ++ [b]) 0) then ⟨[], m.out ++ [(gS (mkB (m.ah ++ [b]))).c]⟩ else ⟨m.ah ++ [b], m.out⟩
def MS.take (m : MS) (b : Int) : MS := (if m.ah ≠ [] ∧ fitB m.ah b = false then m.brk else m).put b
def runL (l : List Int) : MS := l.foldl MS.take ⟨[], []⟩

theorem feed_second (b : Int) (h0 : 0 ≤ b) (h1 : b ≤ 255) (w : World) : Calls Try.prog 240 #[.int .u8 b] w fun e w' => e = .returned (.tuple #[.int .u8 (secLo b), .int .u8 (secHi b)]) ∧ w = w' := by
  go_enter Try.func240, Try.ntmps240
  go_wp2
  all_goals
    go_ret2
    refine ⟨congrArg Ending.returned (congrArg Value.tuple (show #[Value.int .u8 _, Value.int .u8 _] = _ from ?_)), rfl⟩
    simp_all [secLo, secHi]
theorem feed_whole (b : Int) (h0 : 0 ≤ b) (h1 : b ≤ 255) (w : World) : Calls Try.prog 199 #[.int .u8 b] w fun e w' => e = .returned (.int .i64 (whV b)) ∧ w = w' := by
  have HW := Lib.hid (show whV b = if b < 128 then 1 else if 194 ≤ b ∧ b ≤ 223 then 2 else if 224 ≤ b ∧ b ≤ 239 then 3 else if 240 ≤ b ∧ b ≤ 244 then 4 else 0 from rfl)
  go_enter Try.func199, Try.ntmps199
  go_wp2
  all_goals
    go_ret
    refine ⟨ret1_int ?_, rfl⟩
    rw [HW.out]
    repeat' split
    all_goals first | rfl | (exfalso; omega)
def bv (A : List Int) : List Value := A.map (Value.int .u8)
set_option maxRecDepth 100000 in
theorem feed_fits (a : Option Addr) (n c : Nat) (A : List Int) (b : Int) (w : World) (hv : Vals w a (bv A)) (hn : A.length = n) (hA : Byt A) (h0 : 0 ≤ b) (h1 : b ≤ 255) : Calls Try.prog 198 #[.slice a n c, .int .u8 b] w fun e w' => e = .returned (.bool (fitB A b)) ∧ w = w' := by
  by_cases h : n = 1
  · obtain ⟨x, rfl⟩ : ∃ x, A = [x] := by
      match A, hn.trans h with
      | [x], _ => exact ⟨x, rfl⟩
    have hx := hA x (by simp)
    subst h
    obtain ⟨bb, oo, rfl, hc⟩ := hv.at (k := 0) (by simp [bv])
    have e1 := hc 0 (by simp [bv])
    rw [show vx (bv [x]) 0 = .int .u8 x from rfl, Nat.add_zero] at e1
    have HS := Lib.hid (feed_second x hx.1 (by omega))
    have HF := Lib.hid (show fitB [x] b = decide (secLo x ≤ b ∧ b ≤ secHi x) from rfl)
    generalize secLo x = lo at *
    generalize secHi x = hi at *
    clear hc hn
    go_enter Try.func198, Try.ntmps198
    go_wp2_with fail
    refine (HS.out _).mono ?_
    rintro e w' ⟨rfl, rfl⟩
    go_wp2
    all_goals
      go_ret
      refine ⟨ret1_bool ?_, rfl⟩
      rw [HF.out, Bool.eq_iff_iff]
      simp
      try omega
  · have HF := Lib.hid (show fitB A b = decide (128 ≤ b ∧ b ≤ 191) by unfold fitB; rw [if_neg (by omega)])
    have e1 : ((n : Int) == 1) = false := by rw [beq_eq_false_iff_ne]; omega
    go_enter Try.func198, Try.ntmps198
    go_wp2
    all_goals
      go_ret
      refine ⟨ret1_bool ?_, rfl⟩
      rw [HF.out, Bool.eq_iff_iff]
      simp
      try omega

end Go.Proofs.Ytmipnikhgihcpaa
