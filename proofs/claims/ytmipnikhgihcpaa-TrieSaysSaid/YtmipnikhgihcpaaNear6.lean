/- Contract of (*near.Tree).within. -/
import Derived.Test.YtmipnikhgihcpaaNear3
import Derived.Test.YtmipnikhgihcpaaNRow
namespace Go.Proofs.Ytmipnikhgihcpaa
open Go.RowKit
set_option linter.unusedVariables false
set_option linter.unusedSimpArgs false

theorem nodup_len : ∀ (n : Nat) (l : List Nat), l.Nodup → (∀ x ∈ l, x < n) → l.length ≤ n
  | 0, l, h, hl => by
    rcases l with _ | ⟨x, l⟩
    · exact Nat.le_refl _
    · exact absurd (hl x (by simp)) (by omega)
  | n + 1, l, h, hl => by
    by_cases hm : n ∈ l
    · have := nodup_len n (l.erase n) (h.erase n) fun x hx => by
        have h1 := hl x (List.mem_of_mem_erase hx)
        have h2 : x ≠ n := fun e => by subst e; exact (List.Nodup.not_mem_erase h) hx
        omega
      rw [List.length_erase_of_mem hm] at this
      omega
    · have := nodup_len n l h fun x hx => by
        have h1 := hl x hx
        have h2 : x ≠ n := fun e => hm (e ▸ hx)
        omega
      omega

/-- all but rows of pairs stays as it was -/
structure NKeep (base : Nat) (w w' : World) : Prop where
  below : Below base w w'
  blk : ∀ k, k < w.heap.size → (∀ cs fr, w.heap[k]? ≠ some (.cells cs 116 fr)) → w'.heap[k]? = w.heap[k]?
theorem NKeep.refl (base : Nat) (w : World) : NKeep base w w := ⟨Below.refl _ _, fun _ _ _ => rfl⟩
theorem NKeep.trans {base : Nat} {a b c : World} (h : NKeep base a b) (g : NKeep base b c) : NKeep base a c :=
  ⟨h.below.trans g.below, fun k hk hn => by
    have e := h.blk k hk hn
    rw [g.blk k (Nat.lt_of_lt_of_le hk h.below.size) (fun cs fr => by rw [e]; exact hn cs fr), e]⟩
theorem NKeep.of {base : Nat} {w w' : World} (hb : Below w.heap.size w w') (hB : base ≤ w.heap.size) : NKeep base w w' := ⟨hb.mono hB, fun k hk _ => hb.block k hk⟩
theorem NKeep.grown {base : Nat} {w w' : World} {v : Value} {es : List N2} (h : NOwn base w v es) (hB : base ≤ w.heap.size) (hg : w.grownBy w' v.ownBlock) : NKeep base w w' := by
  refine ⟨(Below.refl base w).grown hg hB h.row, fun k hk hn => hg.block k hk fun e => ?_⟩
  rcases h.2 with ⟨rfl, _⟩ | ⟨g, cap, cur, rfl, hb', hgg, rest⟩
  · simp [Value.ownBlock] at e
  · simp only [Value.ownBlock, Option.some.injEq] at e
    subst e
    exact hn _ _ hgg
theorem NKeep.iter {base : Nat} {w w1 w' : World} {r : Nat} (h : NKeep base w w1) (hr : w.heap.size ≤ r) (hB : base ≤ w.heap.size) (hg : w1.grownBy w' (some r)) : NKeep base w w' := by
  refine ⟨h.below.grown hg (Nat.le_trans hB h.below.size) (fun q hq => by simp at hq; omega), fun k hk hn => ?_⟩
  rw [hg.block k (Nat.lt_of_lt_of_le hk h.below.size) (fun e => by simp at e; omega)]
  exact h.blk k hk hn
theorem Blk.nk {w w' : World} {base B : Nat} {cs : Array Value} {e : TypeId} (h : Blk w B cs e) (hk : NKeep base w w') (he : e ≠ 116) : Blk w' B cs e := by
  have hlt := h.lt
  have := h
  unfold Blk at *
  rw [hk.blk B hlt (fun cs' fr e' => by rw [this] at e'; simp at e'; exact he e'.2.1)]; exact this
theorem MapB.nk {w w' : World} {base b c : Nat} {es : Array MapEntry} (h : MapB w b es c) (hk : NKeep base w w') : MapB w' b es c := by
  have hlt := h.lt
  have := h
  unfold MapB at *
  rw [hk.blk b hlt (fun cs' fr e' => by rw [this] at e'; cases e')]; exact this
theorem IterB.nk {w w' : World} {base r b s c : Nat} {seen : Array Nat} (h : IterB w r b s seen c) (hk : NKeep base w w') : IterB w' r b s seen c := by
  have hlt := h.lt
  have := h
  unfold IterB at *
  rw [hk.blk r hlt (fun cs' fr e' => by rw [this] at e'; cases e')]; exact this
theorem Own.nk {w w' : World} {base base' : Nat} {v : Value} {xs : List Int} (h : Own 3 base' w v xs) (hk : NKeep base w w') : Own 3 base' w' v xs := by
  refine ⟨h.1, ?_⟩
  rcases h.2 with hn | ⟨g, cap, cur, rfl, hb', hgg, rest⟩
  · exact .inl hn
  · refine .inr ⟨g, cap, cur, rfl, hb', ?_, rest⟩
    rw [hk.blk g (Array.getElem?_eq_some_iff.1 hgg).1 (fun cs' fr e' => by rw [hgg] at e'; simp at e')]; exact hgg
theorem ArH.nk {w w' : World} {base base' : Nat} {A : List Nd} {B M : Nat → Nat} (h : ArH w base' A B M) (hk : NKeep base w w') : ArH w' base' A B M :=
  ⟨fun i hi => by obtain ⟨sv, h1, h2⟩ := h.blk i hi; exact ⟨sv, h1.nk hk (by decide), h2.nk hk⟩, fun i hi => (h.map i hi).nk hk, h.inj, h.ge⟩

def nearN (A : List Nd) (wd : List Int) (x : Nat) : N2 := ⟨(x : Int), (dst (nd A x).wd wd : Int)⟩
def WiPost (base : Nat) (A : List Nd) (wd : List Int) (most i : Nat) (E : List Nat) (w : World) (e : Ending) (w' : World) : Prop :=
  ∃ v' L, e = .returned v' ∧ NOwn base w' v' ((E ++ L).map (nearN A wd)) ∧ (E ++ L).Nodup ∧ (∀ x, x ∈ L ↔ x < A.length ∧ Anc A i x ∧ dst (nd A x).wd wd ≤ most) ∧ NKeep base w w'

end Go.Proofs.Ytmipnikhgihcpaa
