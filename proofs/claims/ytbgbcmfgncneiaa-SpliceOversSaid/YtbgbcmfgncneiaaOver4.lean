/- A round of splice.Over: plain; how the parts of its memory go on. -/
import Derived.Test.YtbgbcmfgncneiaaOver3
namespace Go.Proofs.Ytbgbcmfgncneiaa
open Go.RowKit
set_option linter.unusedVariables false
set_option linter.unusedSimpArgs false

theorem BSt.ok (b : BSt) : Ok b.toF := by
  intro h
  simp only [BSt.toF] at h ⊢
  rw [if_pos h]
  exact ⟨b.out, b.now, rfl⟩
theorem begin_opn (b : BSt) : opn b.toF = ⟨(beginB b).out ++ [(beginB b).now], b.pl, true⟩ ∧ (beginB b).pl = b.pl := by
  obtain ⟨out, pl, op, now⟩ := b
  cases op <;> simp [opn, beginB, BSt.toF]
theorem keep_toF (b : BSt) : (keepB b).toF = keepF b.toF := by
  obtain ⟨out, pl, op, now⟩ := b
  cases op <;> simp [keepB, keepF, BSt.toF]
theorem drop_toF (b : BSt) : (dropB b).toF = dropF b.toF := by
  have h := begin_opn b
  unfold dropF
  rw [h.1]
  simp only [modLast_snoc]
  simp [dropB, BSt.toF, withT]
theorem put_toF (b : BSt) (x : List Int) : (putB b x).toF = putF b.toF x := by
  have h := begin_opn b
  unfold putF putB
  by_cases hx : x = []
  · rw [if_pos hx, if_pos hx]
  · rw [if_neg hx, if_neg hx, h.1]
    simp only [modLast_snoc]
    simp [BSt.toF, withX]
def keepsB : Nat → BSt → BSt
  | 0, b => b
  | k + 1, b => keepB (keepsB k b)
theorem foldl_const {α : Type} (f : α → α) (k : Nat) : ∀ s : α, (List.replicate k ()).foldl (fun s _ => f s) (f s) = f ((List.replicate k ()).foldl (fun s _ => f s) s) := by
  induction k with
  | zero => intro s; rfl
  | succ k ih => intro s; simp only [List.replicate_succ, List.foldl_cons]; rw [ih]
theorem keeps_toF (k : Nat) (b : BSt) : (keepsB k b).toF = (List.replicate k (Sg.mk 0 0)).foldl stepF b.toF := by
  rw [keepF_signs]
  induction k with
  | zero => rfl
  | succ k ih => simp only [keepsB, List.replicate_succ, List.foldl_cons]; rw [keep_toF, ih, foldl_const]
/-- a round -/
def roundB (n : Int) (ahead : Bool) (i : Int) (mine : List Int) (ln : Nat) (drops gone : Bool) (b : BSt) : BSt :=
  let b1 := if ahead = true then putB b mine else b
  let b2 := keepsB ln b1
  let b3 := if ahead = true then b2 else putB b2 mine
  if i < n ∧ gone = false then (if drops = true then dropB b3 else keepB b3) else b3
theorem round_toF (n : Int) (a b : List Sp) (ahead : Bool) (i : Int) (s : BSt) :
    (roundB n ahead i (txtP i [] a) (txtP i [] b).length (goesB a i) (goesB b i) s).toF = (segP n a b ahead i).foldl stepF s.toF := by
  unfold roundB segP
  simp only [List.foldl_append]
  cases ahead with
  | true =>
    simp only [if_true, List.foldl_nil]
    rw [putF_signs _ (BSt.ok s), ← put_toF, ← keeps_toF]
    by_cases h : i < n ∧ goesB b i = false
    · rw [if_pos h, if_pos h]
      cases goesB a i with
      | true => simp only [if_true, List.foldl_cons, List.foldl_nil]; rw [drop_toF]; simp [stepF]
      | false => simp only [Bool.false_eq_true, if_false, List.foldl_cons, List.foldl_nil]; rw [keep_toF]; simp [stepF]
    · rw [if_neg h, if_neg h]; rfl
  | false =>
    simp only [Bool.false_eq_true, if_false, List.foldl_nil]
    rw [← keeps_toF, putF_signs _ (BSt.ok _), ← put_toF]
    by_cases h : i < n ∧ goesB b i = false
    · rw [if_pos h, if_pos h]
      cases goesB a i with
      | true => simp only [if_true, List.foldl_cons, List.foldl_nil]; rw [drop_toF]; simp [stepF]
      | false => simp only [Bool.false_eq_true, if_false, List.foldl_cons, List.foldl_nil]; rw [keep_toF]; simp [stepF]
    · rw [if_neg h, if_neg h]; rfl

/-- the bounds of a builder's numbers -/
structure Bd (b : BSt) (p x : Int) : Prop where
  p0 : 0 ≤ b.pl
  p1 : b.pl ≤ p
  o : (b.out.length : Int) ≤ b.pl
  x : (b.now.x.length : Int) ≤ x
theorem Bd.keep {b : BSt} {p x : Int} (h : Bd b p x) : Bd (keepB b) (p + 1) x := by
  obtain ⟨h1, h2, h3, h4⟩ := h
  obtain ⟨out, pl, op, now⟩ := b
  cases op <;> exact ⟨by simp [keepB] at *; omega, by simp [keepB] at *; omega, by simp [keepB] at *; omega, by simpa [keepB] using h4⟩
theorem Bd.begin {b : BSt} {p x : Int} (h : Bd b p x) (hx : 0 ≤ x) : Bd (beginB b) p x := by
  obtain ⟨h1, h2, h3, h4⟩ := h
  obtain ⟨out, pl, op, now⟩ := b
  cases op
  · exact ⟨h1, h2, h3, by simpa [beginB] using hx⟩
  · exact ⟨h1, h2, h3, h4⟩
theorem Bd.drop {b : BSt} {p x : Int} (h : Bd b p x) (hx : 0 ≤ x) : Bd (dropB b) (p + 1) x := by
  have h' := h.begin hx
  have hp := (begin_opn b).2
  obtain ⟨h1, h2, h3, h4⟩ := h
  refine ⟨by simp [dropB]; omega, by simp [dropB]; omega, ?_, h'.x⟩
  have := h'.o
  simp only [dropB]
  omega
theorem Bd.put {b : BSt} {p x : Int} {m : List Int} (h : Bd b p x) (hx : 0 ≤ x) (hm : (m.length : Int) ≤ 4096) : Bd (putB b m) p (x + 4096) := by
  have h' := h.begin hx
  have hp := (begin_opn b).2
  unfold putB
  split
  · exact ⟨h.p0, h.p1, h.o, by have := h.x; omega⟩
  · refine ⟨h.p0, h.p1, ?_, ?_⟩
    · have := h'.o; simp only; omega
    · have := h'.x; simp only [List.length_append]; omega
theorem Bd.mono {b : BSt} {p x p' x' : Int} (h : Bd b p x) (hp : p ≤ p') (hx : x ≤ x') : Bd b p' x' := ⟨h.p0, by have := h.p1; omega, h.o, by have := h.x; omega⟩
theorem Bd.keeps {b : BSt} {p x : Int} (h : Bd b p x) (k : Nat) : Bd (keepsB k b) (p + k) x := by
  induction k with
  | zero => simpa [keepsB] using h
  | succ k ih => exact ih.keep.mono (by omega) (by omega)

theorem RAt.keeps {w0 w w' : World} {X : Nat} {es : List Sp} (h : RAt w0 w X es) (hk : Keeps w w') : RAt w0 w' X es := by
  obtain ⟨a, n, c, h1, h2⟩ := h
  exact ⟨a, n, c, hk _ _ _ (by decide) (by decide) (by decide) h1, h2⟩
theorem RAt.grownOther {w0 w w' : World} {X Y : Nat} {es : List Sp} (h : RAt w0 w X es) (hne : X ≠ Y) (hg : w.grownBy w' (some Y)) : RAt w0 w' X es := by
  obtain ⟨a, n, c, h1, h2⟩ := h
  exact ⟨a, n, c, h1.grown hg (by simpa using hne), h2⟩
theorem Own.grownBlk {e e' : TypeId} {base : Nat} {w w' : World} {v : Value} {xs : List Int} {X : Nat} {cs : Array Value} (h : Own e base w v xs) (hX : Blk w X cs e') (he : e ≠ e') (hg : w.grownBy w' (some X)) : Own e base w' v xs := by
  have hne := h.neBlk hX he
  refine ⟨h.1, ?_⟩
  rcases h.2 with hn | ⟨g, cap, cur, rfl, hb', hgg, rest⟩
  · exact .inl hn
  · refine .inr ⟨g, cap, cur, rfl, hb', ?_, rest⟩
    rw [hg.block g (Array.getElem?_eq_some_iff.1 hgg).1 (by intro hc; exact hne (by simp [Value.ownBlock]; simpa using hc.symm))]
    exact hgg
theorem BAt.grownX {base : Nat} {w w' : World} {B X : Nat} {b : BSt} {cs : Array Value} (h : BAt base w B b) (hX : Blk w X cs 145) (hg : w.grownBy w' (some X)) : BAt base w' B b := by
  obtain ⟨ov, us, na, nn, nc, hB, hs, ho, ha, hbB, hbz⟩ := h
  refine ⟨ov, us, na, nn, nc, hB.grown hg (by have := Blk.ne' hX hB (by decide); simpa using this), ⟨⟨hs.1.1, ?_⟩, forall2_imp hs.2 fun _ _ hh => hh.imp fun k => k.grownBlk hX (by decide) hg⟩, ho.grownBlk hX (by decide) hg, ha, hbB, by have := hg.size; omega⟩
  have hne := hs.neBlk hX (by decide)
  rcases hs.1.2 with hn | ⟨g, cap, cur, rfl, hb', hgg, rest⟩
  · exact .inl hn
  · refine .inr ⟨g, cap, cur, rfl, hb', ?_, rest⟩
    rw [hg.block g (Array.getElem?_eq_some_iff.1 hgg).1 (by intro hc; exact hne (by simp [Value.ownBlock]; simpa using hc.symm))]
    exact hgg

end Go.Proofs.Ytbgbcmfgncneiaa
