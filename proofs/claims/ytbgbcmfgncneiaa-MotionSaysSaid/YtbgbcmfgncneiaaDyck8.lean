/- dyck.Pairs: the plain machine. -/
import Derived.Test.YtbgbcmfgncneiaaMapV
namespace Go.Proofs.Ytbgbcmfgncneiaa
open Go.RowKit
set_option linter.unusedVariables false
set_option linter.unusedSimpArgs false

structure PSt where
  out : List Int
  stk : Int → List Int
def pStep (c : Int) (i : Nat) (s : PSt) : PSt :=
  let out := s.out.set i (-1)
  if otherS c = 0 then ⟨out, s.stk⟩
  else if shutS c = false then ⟨out, fun y => if y = c then s.stk c ++ [(i : Int)] else s.stk y⟩
  else if s.stk (otherS c) = [] then ⟨out, s.stk⟩
  else ⟨(out.set i (ix (s.stk (otherS c)) ((s.stk (otherS c)).length - 1))).set (ix (s.stk (otherS c)) ((s.stk (otherS c)).length - 1)).toNat (i : Int),
        fun y => if y = otherS c then (s.stk (otherS c)).dropLast else s.stk y⟩
def pRun (l : List Int) (n : Nat) : Nat → PSt
  | 0 => ⟨List.replicate n 0, fun _ => []⟩
  | i + 1 => pStep (ix l i) i (pRun l n i)
theorem pStep_len (c : Int) (i : Nat) (s : PSt) : (pStep c i s).out.length = s.out.length := by
  unfold pStep; dsimp only; repeat' split
  all_goals simp
theorem pRun_len (l : List Int) (n i : Nat) : (pRun l n i).out.length = n := by
  induction i with
  | zero => simp [pRun]
  | succ i ih => simp only [pRun]; rw [pStep_len, ih]
theorem zeroRow (w : World) : (zeroValue 35).run Try.prog w = .ok nilV w := by kernel_rfl

end Go.Proofs.Ytbgbcmfgncneiaa
