/- What keys.All and keys.Write answer: plain. -/
import Derived.Test.YtmipnikhgihcpaaCRow
namespace Go.Proofs.Ytmipnikhgihcpaa
open Go.RowKit
set_option linter.unusedVariables false
set_option linter.unusedSimpArgs false

deriving instance DecidableEq for C5
def zc5 : C5 := ⟨0, 0, 0, 0, 0⟩
def TK.qc (t : TK) : C5 := ⟨t.q0, t.q1, t.q2, t.q3, t.q4⟩
def TK.cc (t : TK) : C5 := ⟨t.c0, t.c1, t.c2, t.c3, t.c4⟩
/-- what has been seen: commands, the part, what was wrong -/
structure KSt where
  out : List C5
  p : C5
  n : Int
def KSt.step (s : KSt) (key : Int) : KSt :=
  let t := takV s.p.a s.p.b s.p.c s.p.d s.p.e key
  ⟨if t.how = 2 then s.out ++ [t.cc] else s.out, t.qc, if t.how = 3 then s.n + 1 else s.n⟩
def stV (l : List Int) : KSt := l.foldl KSt.step ⟨[], zc5, 0⟩
/-- a part that can be -/
def C5.ok (p : C5) : Prop := partE p.a p.b p.c p.d p.e = 0

theorem partE_zero : partE 0 0 0 0 0 = 0 := by decide
theorem partE_mk {f r o s wt : Int} (h1 : cntB f o s = true) (h2 : namB r o = true) (h3 : waiB r o wt = true) : partE f r o s wt = 0 := by
  unfold partE; rw [h1, h2, h3]; rfl
theorem partE_of {f r o s wt : Int} (h : partE f r o s wt = 0) : cntB f o s = true ∧ namB r o = true ∧ waiB r o wt = true := by
  unfold partE at h
  split at h
  · rename_i h'; simp at h'; exact ⟨h'.1.1, h'.1.2, h'.2⟩
  · simp at h
theorem tak_how (f r o s wt key : Int) : (takV f r o s wt key).how = 1 ∨ (takV f r o s wt key).how = 2 ∨ (takV f r o s wt key).how = 3 := by
  unfold takV awaV
  repeat' split
  all_goals simp [TK.wrong, TK.more, TK.done]

theorem more_ok {f r o s wt : Int} (h1 : cntB f o s = true) (h2 : namB r o = true) (h3 : waiB r o wt = true) : (TK.more f r o s wt).qc.ok := partE_mk h1 h2 h3
theorem wrong_ok : TK.wrong.qc.ok := partE_zero
theorem done_ok (f r o s verb arg : Int) : (TK.done f r o s verb arg).qc.ok := partE_zero
theorem wai_zero (r o : Int) : waiB r o 0 = true := by simp [waiB]
theorem kd_dig {f r o s key : Int} (h : kdV f r o s key = 1) : dgB (if o ≠ 0 then s else f) key = true := by
  by_cases hd : dgB (if o ≠ 0 then s else f) key = true
  · exact hd
  · unfold kdV at h
    rw [if_neg hd] at h
    clear hd
    repeat' split at h
    all_goals (exfalso; omega)
theorem kd_wait {f r o s key : Int} (h : kdV f r o s key = 2 ∨ kdV f r o s key = 4 ∨ kdV f r o s key = 7 ∨ kdV f r o s key = 8) : waiB r o key = true := by
  unfold kdV at h
  repeat' split at h
  all_goals first | (exfalso; omega) | (simp_all [waiB]; done)
theorem kd_op {f r o s key : Int} (h : kdV f r o s key = 3) : opB key = true := by
  unfold kdV at h
  repeat' split at h
  all_goals first | assumption | omega
theorem cnt_in {n key : Int} (h0 : 0 ≤ n) (h1 : 48 ≤ key) (h2 : key ≤ 57) : 0 ≤ cntV n key ∧ cntV n key ≤ 999 := by
  unfold cntV; omega
theorem tak_ok {f r o s wt : Int} (key : Int) (h : partE f r o s wt = 0) : (takV f r o s wt key).qc.ok := by
  obtain ⟨h1, h2, h3⟩ := partE_of h
  unfold takV
  split
  · exact wrong_ok
  split
  · unfold awaV
    split
    · split
      · rename_i hl
        refine more_ok h1 ?_ (wai_zero _ _)
        simp [namB] at h2 ⊢
        exact ⟨.inr hl, h2.2⟩
      · exact wrong_ok
    · split
      · split
        · exact done_ok ..
        · exact wrong_ok
      · exact done_ok ..
  · split
    · rename_i hk
      have hd := kd_dig hk
      split
      · rename_i ho
        rw [if_pos ho] at hd
        simp [dgB] at hd
        simp [cntB] at h1
        have := cnt_in (n := s) (key := key) (by omega) (by omega) (by omega)
        refine more_ok ?_ h2 (wai_zero _ _)
        simp [cntB]
        omega
      · rename_i ho
        rw [if_neg ho] at hd
        simp [dgB] at hd
        simp [cntB] at h1
        have := cnt_in (n := f) (key := key) (by omega) (by omega) (by omega)
        refine more_ok ?_ h2 (wai_zero _ _)
        simp [cntB]
        omega
    · split
      · rename_i hk
        exact more_ok h1 h2 (kd_wait hk)
      · split
        · rename_i hk
          have ho := kd_op hk
          split
          · rename_i h0
            subst h0
            have hn : key ≠ 0 := by rintro rfl; simp [opB] at ho
            refine more_ok ?_ ?_ (wai_zero _ _)
            · simp [cntB] at h1 ⊢; omega
            · simp [namB] at h2 ⊢; exact ⟨h2, .inr ho⟩
          · split
            · exact wrong_ok
            · exact done_ok ..
        · split
          · exact done_ok ..
          · exact wrong_ok

/-- what is known after some keys -/
structure KSt.good (s : KSt) (k : Nat) : Prop where
  ok : s.p.ok
  len : s.out.length ≤ k
  lo : 0 ≤ s.n
  hi : s.n ≤ k
theorem KSt.good.step {s : KSt} {k : Nat} (h : s.good k) (key : Int) : (s.step key).good (k + 1) := by
  have h1 := h.len; have h2 := h.lo; have h3 := h.hi
  refine ⟨tak_ok key h.ok, ?_, ?_, ?_⟩
  · simp only [KSt.step]; split
    · simp; omega
    · omega
  · simp only [KSt.step]; split <;> omega
  · simp only [KSt.step]; split <;> omega
theorem st_good (l : List Int) : ∀ (s : KSt) (k : Nat), s.good k → (l.foldl KSt.step s).good (k + l.length) := by
  induction l with
  | nil => intro s k h; exact h
  | cons a r ih =>
    intro s k h
    have := ih (s.step a) (k + 1) (h.step a)
    rw [List.foldl_cons, List.length_cons, show k + (r.length + 1) = k + 1 + r.length by omega]
    exact this
theorem stV_good (l : List Int) : (stV l).good l.length := by
  have := st_good l ⟨[], zc5, 0⟩ 0 ⟨partE_zero, by simp, by simp, by simp⟩
  rwa [Nat.zero_add] at this
theorem stV_take {l : List Int} {k : Nat} (hk : k < l.length) : stV (l.take (k + 1)) = (stV (l.take k)).step (ix l k) := by
  unfold stV
  rw [List.take_add_one, List.foldl_append, ix_eq hk, List.getElem?_eq_getElem hk]
  rfl
theorem stV_takeGood {l : List Int} {k : Nat} (hk : k ≤ l.length) : (stV (l.take k)).good k := by
  have := stV_good (l.take k)
  rwa [List.length_take, Nat.min_eq_left hk] at this

/-- the digits of a count -/
def digL (n : Int) : List Int := (if 100 ≤ n then [48 + n / 100 % 10] else []) ++ (if 10 ≤ n then [48 + n / 10 % 10] else []) ++ (if 1 ≤ n then [48 + n % 10] else [])
def waitsB (c : C5) : Bool := fiB c.d || decide (c.d = 114) || (iaB c.d && decide (c.c ≠ 0))
def writeL (c : C5) : List Int := (if c.b ≠ 0 then [34, c.b] else []) ++ digL c.a ++ (if c.c ≠ 0 then [c.c] else []) ++ [c.d] ++ (if waitsB c = true then [c.e] else [])
def wrOk (c : C5) : Bool := decide ((stV (writeL c)).out = [c]) && decide ((stV (writeL c)).p = zc5) && decide ((stV (writeL c)).n = 0)
def wrL (c : C5) : List Int := if c.a < 0 ∨ 999 < c.a then [] else if wrOk c = true then writeL c else []
def wrE (c : C5) : Int := if c.a < 0 ∨ 999 < c.a then 1 else if wrOk c = true then 0 else 4

end Go.Proofs.Ytmipnikhgihcpaa
