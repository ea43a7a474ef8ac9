/- NearSays, plain: how far two lists of numbers are from each other. -/
import Derived.Test.YtmipnikhgihcpaaBase
namespace Go.Proofs.Ytmipnikhgihcpaa
open Go.RowKit
set_option linter.unusedVariables false
set_option linter.unusedSimpArgs false

/-- the least number of changes, by the heads -/
def lev : List Int → List Int → Nat
  | [], b => b.length
  | x :: a, [] => a.length + 1
  | x :: a, y :: b => min (lev a b + if x = y then 0 else 1) (min (lev a (y :: b) + 1) (lev (x :: a) b + 1))
termination_by a b => a.length + b.length

/-- changes that lead from one list to the other, with their number -/
inductive Chg : List Int → List Int → Nat → Prop
  | nil : Chg [] [] 0
  | ins {a b : List Int} {n : Nat} (y : Int) (h : Chg a b n) : Chg a (y :: b) (n + 1)
  | del {a b : List Int} {n : Nat} (x : Int) (h : Chg a b n) : Chg (x :: a) b (n + 1)
  | sub {a b : List Int} {n : Nat} (x y : Int) (h : Chg a b n) : Chg (x :: a) (y :: b) (n + if x = y then 0 else 1)

theorem Chg.insAll : ∀ b : List Int, Chg [] b b.length
  | [] => .nil
  | y :: b => .ins y (Chg.insAll b)
theorem Chg.delAll : ∀ a : List Int, Chg a [] a.length
  | [] => .nil
  | x :: a => .del x (Chg.delAll a)
theorem lev_nil_left (b : List Int) : lev [] b = b.length := by rw [lev]
theorem lev_nil_right (a : List Int) : lev a [] = a.length := by cases a <;> simp [lev]
theorem lev_cons (x : Int) (a : List Int) (y : Int) (b : List Int) : lev (x :: a) (y :: b) = min (lev a b + if x = y then 0 else 1) (min (lev a (y :: b) + 1) (lev (x :: a) b + 1)) := by rw [lev]

theorem lev_chg : ∀ (n : Nat) (a b : List Int), a.length + b.length ≤ n → Chg a b (lev a b)
  | n, [], b, _ => by rw [lev_nil_left]; exact Chg.insAll b
  | n, x :: a, [], _ => by rw [lev_nil_right]; exact Chg.delAll _
  | 0, x :: a, y :: b, h => by simp at h
  | n + 1, x :: a, y :: b, h => by
    simp only [List.length_cons] at h
    have h1 := lev_chg n a b (by omega)
    have h2 := lev_chg n a (y :: b) (by simp only [List.length_cons]; omega)
    have h3 := lev_chg n (x :: a) b (by simp only [List.length_cons]; omega)
    rw [lev_cons]
    rcases Nat.le_total (lev a b + if x = y then 0 else 1) (min (lev a (y :: b) + 1) (lev (x :: a) b + 1)) with g | g
    · rw [Nat.min_eq_left g]; exact .sub x y h1
    · rw [Nat.min_eq_right g]
      rcases Nat.le_total (lev a (y :: b) + 1) (lev (x :: a) b + 1) with g | g
      · rw [Nat.min_eq_left g]; exact .del x h2
      · rw [Nat.min_eq_right g]; exact .ins y h3
theorem lev_is (a b : List Int) : Chg a b (lev a b) := lev_chg _ a b (Nat.le_refl _)
theorem lev_le {a b : List Int} {n : Nat} (h : Chg a b n) : lev a b ≤ n := by
  induction h with
  | nil => rw [lev_nil_left]; exact Nat.le_refl _
  | @ins a b n y h ih =>
    cases a with
    | nil => rw [lev_nil_left] at *; simp only [List.length_cons]; omega
    | cons x a => rw [lev_cons]; omega
  | @del a b n x h ih =>
    cases b with
    | nil => rw [lev_nil_right] at *; simp only [List.length_cons]; omega
    | cons y b => rw [lev_cons]; omega
  | @sub a b n x y h ih => rw [lev_cons]; omega
theorem Chg.comm {a b : List Int} {n : Nat} (h : Chg a b n) : Chg b a n := by
  induction h with
  | nil => exact .nil
  | ins y h ih => exact .del y ih
  | del x h ih => exact .ins x ih
  | @sub a b n x y h ih =>
    have := Chg.sub y x ih
    rwa [show (if y = x then 0 else 1) = (if x = y then (0 : Nat) else 1) from by simp only [eq_comm]] at this
theorem lev_comm (a b : List Int) : lev a b = lev b a := Nat.le_antisymm (lev_le (lev_is b a).comm) (lev_le (lev_is a b).comm)
theorem chg_comp : ∀ (s : Nat) (a b c : List Int) (m n : Nat), a.length + b.length + c.length ≤ s → Chg a b m → Chg b c n → ∃ k, k ≤ m + n ∧ Chg a c k
  | 0, a, b, c, m, n, h, h1, h2 => by
    obtain rfl : a = [] := List.eq_nil_of_length_eq_zero (by omega)
    obtain rfl : b = [] := List.eq_nil_of_length_eq_zero (by omega)
    obtain rfl : c = [] := List.eq_nil_of_length_eq_zero (by omega)
    exact ⟨0, by omega, .nil⟩
  | s + 1, a, b, c, m, n, h, h1, h2 => by
    cases h2 with
    | @ins _ c' n' z h2' =>
      simp only [List.length_cons] at h
      obtain ⟨k, hk, hc⟩ := chg_comp s a b c' m n' (by omega) h1 h2'
      exact ⟨k + 1, by omega, .ins z hc⟩
    | nil =>
      cases h1 with
      | nil => exact ⟨0, by omega, .nil⟩
      | @del a' _ m' x h1' =>
        simp only [List.length_cons] at h
        obtain ⟨k, hk, hc⟩ := chg_comp s a' [] [] m' 0 (by simp only [List.length_nil]; omega) h1' .nil
        exact ⟨k + 1, by omega, .del x hc⟩
    | @del b' _ n' y h2' =>
      simp only [List.length_cons] at h
      cases h1 with
      | @ins _ _ m' _ h1' =>
        obtain ⟨k, hk, hc⟩ := chg_comp s a b' c m' n' (by omega) h1' h2'
        exact ⟨k, by omega, hc⟩
      | @del a' _ m' x h1' =>
        simp only [List.length_cons] at h
        obtain ⟨k, hk, hc⟩ := chg_comp s a' (y :: b') c m' (n' + 1) (by simp only [List.length_cons]; omega) h1' (.del y h2')
        exact ⟨k + 1, by omega, .del x hc⟩
      | @sub a' _ m' x _ h1' =>
        simp only [List.length_cons] at h
        obtain ⟨k, hk, hc⟩ := chg_comp s a' b' c m' n' (by omega) h1' h2'
        exact ⟨k + 1, by split <;> omega, .del x hc⟩
    | @sub b' c' n' y z h2' =>
      simp only [List.length_cons] at h
      cases h1 with
      | @ins _ _ m' _ h1' =>
        obtain ⟨k, hk, hc⟩ := chg_comp s a b' c' m' n' (by omega) h1' h2'
        exact ⟨k + 1, by split <;> omega, .ins z hc⟩
      | @del a' _ m' x h1' =>
        simp only [List.length_cons] at h
        obtain ⟨k, hk, hc⟩ := chg_comp s a' (y :: b') (z :: c') m' _ (by simp only [List.length_cons]; omega) h1' (.sub y z h2')
        exact ⟨k + 1, by omega, .del x hc⟩
      | @sub a' _ m' x _ h1' =>
        simp only [List.length_cons] at h
        obtain ⟨k, hk, hc⟩ := chg_comp s a' b' c' m' n' (by omega) h1' h2'
        refine ⟨k + if x = z then 0 else 1, ?_, .sub x z hc⟩
        by_cases e1 : x = y
        · subst e1; simp only [if_true]; omega
        · rw [if_neg e1]
          by_cases e2 : y = z
          · rw [if_pos e2]; split <;> omega
          · rw [if_neg e2]; split <;> omega
theorem lev_tri (a b c : List Int) : lev a c ≤ lev a b + lev b c := by
  obtain ⟨k, hk, hc⟩ := chg_comp _ a b c _ _ (Nat.le_refl _) (lev_is a b) (lev_is b c)
  exact Nat.le_trans (lev_le hc) hk
theorem lev_tail (x : Int) (a : List Int) : lev a (x :: a) ≤ 1 ∧ lev (x :: a) a ≤ 1 := by
  have h : Chg a a 0 := by
    induction a with
    | nil => exact .nil
    | cons y a ih => have := Chg.sub y y ih; simpa using this
  exact ⟨lev_le (.ins x h), lev_le (.del x h)⟩
theorem lev_near (x : Int) (a b : List Int) : lev a b ≤ lev (x :: a) b + 1 ∧ lev (x :: a) b ≤ lev a b + 1 ∧ lev a b ≤ lev a (x :: b) + 1 ∧ lev a (x :: b) ≤ lev a b + 1 := by
  have h1 := lev_tri a (x :: a) b
  have h2 := lev_tri (x :: a) a b
  have h3 := lev_tri a (x :: b) b
  have h4 := lev_tri a b (x :: b)
  have := (lev_tail x a).1; have := (lev_tail x a).2; have := (lev_tail x b).1; have := (lev_tail x b).2
  omega
/-- equal heads need no change -/
theorem lev_same (x : Int) (a b : List Int) : lev (x :: a) (x :: b) = lev a b := by
  rw [lev_cons, if_pos rfl]
  have h1 := (lev_near x a b).2.2.1; have h2 := (lev_near x a b).1
  omega
theorem lev_diff {x y : Int} (h : x ≠ y) (a b : List Int) : lev (x :: a) (y :: b) = 1 + min (min (lev a (y :: b)) (lev (x :: a) b)) (lev a b) := by
  rw [lev_cons, if_neg h]
  omega
theorem lev_top (a b : List Int) : lev a b ≤ a.length + b.length := by
  have h1 := lev_tri a [] b
  rw [lev_nil_right, lev_nil_left] at h1
  exact h1

/-- how far the first i numbers of a are from the first j of b -/
def far (a b : List Int) (i j : Nat) : Nat := lev (a.take i).reverse (b.take j).reverse
theorem take_rev {a : List Int} {i : Nat} (h : i < a.length) : (a.take (i + 1)).reverse = ix a i :: (a.take i).reverse := by
  rw [take_succ_ix h, List.reverse_append]; rfl
theorem far_zero_left (a b : List Int) (j : Nat) (h : j ≤ b.length) : far a b 0 j = j := by
  unfold far
  rw [List.take_zero, List.reverse_nil, lev_nil_left, List.length_reverse, List.length_take]; omega
theorem far_zero_right (a b : List Int) (i : Nat) (h : i ≤ a.length) : far a b i 0 = i := by
  unfold far
  rw [List.take_zero, List.reverse_nil, lev_nil_right, List.length_reverse, List.length_take]; omega
theorem far_step {a b : List Int} {i j : Nat} (hi : i < a.length) (hj : j < b.length) : far a b (i + 1) (j + 1) = min (far a b i j + if ix a i = ix b j then 0 else 1) (min (far a b i (j + 1) + 1) (far a b (i + 1) j + 1)) := by
  unfold far
  rw [take_rev hi, take_rev hj, lev_cons]
theorem far_same {a b : List Int} {i j : Nat} (hi : i < a.length) (hj : j < b.length) (h : ix a i = ix b j) : far a b (i + 1) (j + 1) = far a b i j := by
  unfold far
  rw [take_rev hi, take_rev hj, h, lev_same]
theorem far_diff {a b : List Int} {i j : Nat} (hi : i < a.length) (hj : j < b.length) (h : ix a i ≠ ix b j) : far a b (i + 1) (j + 1) = 1 + min (min (far a b i (j + 1)) (far a b (i + 1) j)) (far a b i j) := by
  unfold far
  rw [take_rev hi, take_rev hj, lev_diff h]
theorem far_top (a b : List Int) (i j : Nat) : far a b i j ≤ i + j := by
  have := lev_top (a.take i).reverse (b.take j).reverse
  unfold far
  simp only [List.length_reverse, List.length_take] at this
  omega
/-- how far two words are -/
def dst (a b : List Int) : Nat := lev a.reverse b.reverse
theorem dst_far (a b : List Int) : far a b a.length b.length = dst a b := by unfold far dst; rw [List.take_length, List.take_length]
theorem dst_tri (a b c : List Int) : dst a c ≤ dst a b + dst b c := lev_tri _ _ _
theorem dst_comm (a b : List Int) : dst a b = dst b a := lev_comm _ _
theorem dst_top (a b : List Int) : dst a b ≤ a.length + b.length := by have := lev_top a.reverse b.reverse; simpa [dst] using this

end Go.Proofs.Ytmipnikhgihcpaa
