/- Plain law of dyck.Pairs: the machine's rows answer what Partner answers. -/
import Derived.Test.YtbgbcmfgncneiaaDyckP
namespace Go.Proofs.Ytbgbcmfgncneiaa
set_option linter.unusedVariables false
set_option linter.unusedSimpArgs false

theorem ixS_ne {l : List Int} {i j : Nat} {x : Int} (h : i ≠ j) : ix (l.set i x) j = ix l j := by
  simp [ix, List.getElem?_set, h]
theorem ixS_eq {l : List Int} {i : Nat} {x : Int} (h : i < l.length) : ix (l.set i x) i = x := by
  simp [ix, List.getElem?_set, h]
theorem ix_last {xs : List Int} {x : Int} : ix (xs ++ [x]) xs.length = x := by simp [ix]
theorem ix_lastP {xs : List Int} {q : Nat} (h : q < xs.length - 1) : ix xs.dropLast q = ix xs q := by
  simp only [ix, List.getD_eq_getElem?_getD, List.getElem?_dropLast, if_pos h]

def IsKind (o s : Int) : Prop := (o = 40 ∧ s = 41) ∨ (o = 91 ∧ s = 93) ∨ (o = 123 ∧ s = 125)
theorem kindOf (c : Int) : (otherS c = 0 ∧ ∀ o s, IsKind o s → c ≠ o ∧ c ≠ s) ∨ (IsKind c (otherS c) ∧ otherS c ≠ 0 ∧ shutS c = false) ∨ (IsKind (otherS c) c ∧ otherS c ≠ 0 ∧ shutS c = true) := by
  rcases sevenWays c with rfl | rfl | rfl | rfl | rfl | rfl | ⟨h1, h2, h3, h4, h5, h6⟩
  case inr.inr.inr.inr.inr.inr =>
    refine .inl ⟨by simp [otherS, h1, h2, h3, h4, h5, h6], fun o s h => ?_⟩
    unfold IsKind at h; omega
  all_goals simp [otherS, shutS, IsKind]

/-- the stack of a kind, and what it says of the sums -/
structure StkI (l : List Int) (o s : Int) (i : Nat) (st : List Int) : Prop where
  place : ∀ q, q < st.length → ∃ p : Nat, ix st q = (p : Int) ∧ p < i ∧ ix l p = o ∧ (∀ b, p < b → b ≤ i → sumOS l o s p + 1 ≤ sumOS l o s b) ∧ sumOS l o s i = sumOS l o s p + (st.length - q : Int)
  base : ∀ a, a ≤ i → sumOS l o s i - sumOS l o s a ≤ (st.length : Int)

theorem StkI.zero (l : List Int) (o s : Int) : StkI l o s 0 [] := by
  refine ⟨fun q hq => by simp at hq, fun a ha => ?_⟩
  obtain rfl : a = 0 := by omega
  simp
theorem StkI.skip {l : List Int} {o s : Int} {i : Nat} {st : List Int} (h : StkI l o s i st) (h1 : ix l i ≠ o) (h2 : ix l i ≠ s) : StkI l o s (i + 1) st := by
  have hs : sumOS l o s (i + 1) = sumOS l o s i := by simp [sumOS, dOS, h1, h2]
  refine ⟨fun q hq => ?_, fun a ha => ?_⟩
  · obtain ⟨p, e1, e2, e3, e4, e5⟩ := h.place q hq
    refine ⟨p, e1, by omega, e3, fun b hb hb' => ?_, by omega⟩
    by_cases e : b = i + 1
    · subst e; rw [hs]; exact e4 i e2 (Nat.le_refl _)
    · exact e4 b hb (by omega)
  · by_cases e : a = i + 1
    · subst e; omega
    · have := h.base a (by omega); omega
theorem StkI.push {l : List Int} {o s : Int} {i : Nat} {st : List Int} (h : StkI l o s i st) (h1 : ix l i = o) (hos : o ≠ s) : StkI l o s (i + 1) (st ++ [(i : Int)]) := by
  have hs : sumOS l o s (i + 1) = sumOS l o s i + 1 := by simp [sumOS, dOS, h1, hos]
  refine ⟨fun q hq => ?_, fun a ha => ?_⟩
  · have hq : q < st.length + 1 := by simpa using hq
    by_cases e : q = st.length
    · subst e
      refine ⟨i, ix_last, by omega, h1, fun b hb hb' => ?_, by simp; omega⟩
      obtain rfl : b = i + 1 := by omega
      omega
    · obtain ⟨p, e1, e2, e3, e4, e5⟩ := h.place q (by omega)
      refine ⟨p, by rw [ix_append_left (by omega), e1], by omega, e3, fun b hb hb' => ?_, by simp; omega⟩
      by_cases e : b = i + 1
      · subst e; rw [hs]; have := e4 i e2 (Nat.le_refl _); omega
      · exact e4 b hb (by omega)
  · simp only [List.length_append, List.length_singleton]
    by_cases e : a = i + 1
    · subst e; omega
    · have := h.base a (by omega); omega
theorem StkI.none {l : List Int} {o s : Int} {i : Nat} (h : StkI l o s i []) (h1 : ix l i = s) (hos : o ≠ s) : StkI l o s (i + 1) [] ∧ ∀ a, a ≤ i → sumOS l o s (i + 1) + 1 ≤ sumOS l o s a := by
  have hs : sumOS l o s (i + 1) = sumOS l o s i - 1 := by simp [sumOS, dOS, h1, Ne.symm hos]; omega
  refine ⟨⟨fun q hq => by simp at hq, fun a ha => ?_⟩, fun a ha => ?_⟩
  · by_cases e : a = i + 1
    · subst e; simp
    · have := h.base a (by omega); simp at this ⊢; omega
  · have := h.base a ha; simp at this; omega
theorem StkI.pop {l : List Int} {o s : Int} {i : Nat} {st : List Int} (h : StkI l o s i st) (h1 : ix l i = s) (hos : o ≠ s) (hne : 0 < st.length) :
    StkI l o s (i + 1) st.dropLast ∧ ∃ p : Nat, ix st (st.length - 1) = (p : Int) ∧ Match l o s p i := by
  have hs : sumOS l o s (i + 1) = sumOS l o s i - 1 := by simp [sumOS, dOS, h1, Ne.symm hos]; omega
  refine ⟨⟨fun q hq => ?_, fun a ha => ?_⟩, ?_⟩
  · have hq : q < st.length - 1 := by simpa using hq
    obtain ⟨p, e1, e2, e3, e4, e5⟩ := h.place q (by omega)
    have e6 : sumOS l o s (i + 1) = sumOS l o s p + ((st.dropLast.length : Int) - q) := by simp; omega
    refine ⟨p, by rw [ix_lastP hq, e1], by omega, e3, fun b hb hb' => ?_, e6⟩
    by_cases e : b = i + 1
    · subst e; simp at e6; omega
    · exact e4 b hb (by omega)
  · simp only [List.length_dropLast]
    by_cases e : a = i + 1
    · subst e; omega
    · have := h.base a (by omega); omega
  · obtain ⟨p, e1, e2, e3, e4, e5⟩ := h.place (st.length - 1) (by omega)
    exact ⟨p, e1, e2, e3, h1, e4, by omega⟩

/-- what the row says of the places ahead of i -/
structure OutI (l : List Int) (i : Nat) (S : PSt) : Prop where
  others : ∀ x, x < i → otherS (ix l x) = 0 → ix S.out x = -1
  closers : ∀ o s, IsKind o s → ∀ x, x < i → ix l x = s → (∃ p : Nat, Match l o s p x ∧ ix S.out x = (p : Int)) ∨ (ix S.out x = -1 ∧ ∀ a, a ≤ x → sumOS l o s (x + 1) + 1 ≤ sumOS l o s a)
  openers : ∀ o s, IsKind o s → ∀ x, x < i → ix l x = o → (∃ j, j < i ∧ Match l o s x j ∧ ix S.out x = (j : Int)) ∨ (ix S.out x = -1 ∧ ∃ q, q < (S.stk o).length ∧ ix (S.stk o) q = (x : Int))
  stks : ∀ o s, IsKind o s → StkI l o s i (S.stk o)

theorem IsKind.ne {o s : Int} (h : IsKind o s) : o ≠ s := by unfold IsKind at h; omega
theorem IsKind.same {o s s' : Int} (h : IsKind o s) (h' : IsKind o s') : s = s' := by unfold IsKind at h h'; omega
theorem IsKind.sameO {o o' s : Int} (h : IsKind o s) (h' : IsKind o' s) : o = o' := by unfold IsKind at h h'; omega
theorem IsKind.cross {o s o' : Int} (h : IsKind o s) (h' : IsKind s o') : False := by unfold IsKind at h h'; omega
theorem IsKind.apart {o s o' s' : Int} (h : IsKind o s) (h' : IsKind o' s') : o ≠ s' := by unfold IsKind at h h'; omega
theorem IsKind.other {o s : Int} (h : IsKind o s) : otherS o = s ∧ otherS s = o ∧ shutS o = false ∧ shutS s = true ∧ s ≠ 0 ∧ o ≠ 0 := by
  rcases h with ⟨rfl, rfl⟩ | ⟨rfl, rfl⟩ | ⟨rfl, rfl⟩ <;> simp [otherS, shutS]

theorem OutI.step {l : List Int} {i n : Nat} {S : PSt} (h : OutI l i S) (hn : S.out.length = n) (hi : i < n) : OutI l (i + 1) (pStep (ix l i) i S) := by
  rcases kindOf (ix l i) with ⟨k0, k1⟩ | ⟨k0, k1, k2⟩ | ⟨k0, k1, k2⟩
  · -- no bracket
    have e : pStep (ix l i) i S = ⟨S.out.set i (-1), S.stk⟩ := by simp [pStep, k0]
    rw [e]
    refine ⟨fun x hx hx2 => ?_, fun o s hk x hx hx2 => ?_, fun o s hk x hx hx2 => ?_, fun o s hk => ?_⟩
    · by_cases e : x = i
      · subst e; exact ixS_eq (by omega)
      · show ix (S.out.set i (-1)) x = _; rw [ixS_ne (by omega)]; exact h.others x (by omega) hx2
    · by_cases e : x = i
      · subst e; exact absurd hx2 (k1 o s hk).2
      · show (∃ p : Nat, _ ∧ ix (S.out.set i (-1)) x = _) ∨ (ix (S.out.set i (-1)) x = _ ∧ _); rw [ixS_ne (by omega)]; exact h.closers o s hk x (by omega) hx2
    · by_cases e : x = i
      · subst e; exact absurd hx2 (k1 o s hk).1
      · show (∃ p : Nat, _ ∧ _ ∧ ix (S.out.set i (-1)) x = _) ∨ (ix (S.out.set i (-1)) x = _ ∧ _); rw [ixS_ne (by omega)]
        rcases h.openers o s hk x (by omega) hx2 with ⟨j, h1, h2, h3⟩ | h1
        · exact .inl ⟨j, by omega, h2, h3⟩
        · exact .inr h1
    · exact (h.stks o s hk).skip (k1 o s hk).1 (k1 o s hk).2
  · -- an opener
    have e : pStep (ix l i) i S = ⟨S.out.set i (-1), fun y => if y = ix l i then S.stk (ix l i) ++ [(i : Int)] else S.stk y⟩ := by simp [pStep, k1, k2]
    rw [e]
    refine ⟨fun x hx hx2 => ?_, fun o s hk x hx hx2 => ?_, fun o s hk x hx hx2 => ?_, fun o s hk => ?_⟩
    · by_cases e : x = i
      · subst e; exact absurd hx2 k1
      · show ix (S.out.set i (-1)) x = _; rw [ixS_ne (by omega)]; exact h.others x (by omega) hx2
    · by_cases e : x = i
      · subst e; rw [hx2] at k0; exact (hk.cross k0).elim
      · show (∃ p : Nat, _ ∧ ix (S.out.set i (-1)) x = _) ∨ (ix (S.out.set i (-1)) x = _ ∧ _); rw [ixS_ne (by omega)]; exact h.closers o s hk x (by omega) hx2
    · by_cases e : x = i
      · subst e
        refine .inr ⟨ixS_eq (by omega), ?_⟩
        show ∃ q, q < (if o = ix l x then S.stk (ix l x) ++ [(x : Int)] else S.stk o).length ∧ ix (if o = ix l x then S.stk (ix l x) ++ [(x : Int)] else S.stk o) q = _
        rw [if_pos hx2.symm]
        exact ⟨(S.stk (ix l x)).length, by simp, ix_last⟩
      · show (∃ p : Nat, _ ∧ _ ∧ ix (S.out.set i (-1)) x = _) ∨ (ix (S.out.set i (-1)) x = _ ∧ ∃ q, q < (if o = ix l i then S.stk (ix l i) ++ [(i : Int)] else S.stk o).length ∧ ix (if o = ix l i then S.stk (ix l i) ++ [(i : Int)] else S.stk o) q = _); rw [ixS_ne (by omega)]
        rcases h.openers o s hk x (by omega) hx2 with ⟨j, h1, h2, h3⟩ | ⟨h1, q, h2, h3⟩
        · exact .inl ⟨j, by omega, h2, h3⟩
        · refine .inr ⟨h1, q, ?_, ?_⟩
          · split
            · rename_i e2; rw [← e2]; simp; omega
            · exact h2
          · split
            · rename_i e2; rw [← e2, ix_append_left h2]; exact h3
            · exact h3
    · show StkI l o s (i + 1) (if o = ix l i then S.stk (ix l i) ++ [(i : Int)] else S.stk o)
      split
      · rename_i e2; rw [← e2]; exact (h.stks o s hk).push e2.symm hk.ne
      · rename_i e2; exact (h.stks o s hk).skip (fun e => e2 e.symm) (fun e => k0.apart hk e)
  · by_cases hS : S.stk (otherS (ix l i)) = []
    · -- a closer without a partner
      have e : pStep (ix l i) i S = ⟨S.out.set i (-1), S.stk⟩ := by simp [pStep, k1, k2, hS]
      rw [e]
      have hst := h.stks _ _ k0
      rw [hS] at hst
      obtain ⟨hst1, hst2⟩ := hst.none rfl k0.ne
      refine ⟨fun x hx hx2 => ?_, fun o s hk x hx hx2 => ?_, fun o s hk x hx hx2 => ?_, fun o s hk => ?_⟩
      · by_cases e : x = i
        · subst e; exact absurd hx2 k1
        · show ix (S.out.set i (-1)) x = _; rw [ixS_ne (by omega)]; exact h.others x (by omega) hx2
      · by_cases e : x = i
        · subst e; rw [hx2] at k0 hst2; obtain rfl := hk.sameO k0
          exact .inr ⟨ixS_eq (by omega), hst2⟩
        · show (∃ p : Nat, _ ∧ ix (S.out.set i (-1)) x = _) ∨ (ix (S.out.set i (-1)) x = _ ∧ _); rw [ixS_ne (by omega)]; exact h.closers o s hk x (by omega) hx2
      · by_cases e : x = i
        · subst e; exact absurd hx2.symm (hk.apart k0)
        · show (∃ p : Nat, _ ∧ _ ∧ ix (S.out.set i (-1)) x = _) ∨ (ix (S.out.set i (-1)) x = _ ∧ _); rw [ixS_ne (by omega)]
          rcases h.openers o s hk x (by omega) hx2 with ⟨j, h1, h2, h3⟩ | h1
          · exact .inl ⟨j, by omega, h2, h3⟩
          · exact .inr h1
      · by_cases e2 : s = ix l i
        · subst e2; obtain rfl := hk.sameO k0
          show StkI l _ _ (i + 1) (S.stk _)
          rw [hS]; exact hst1
        · exact (h.stks o s hk).skip (fun e => hk.apart k0 e.symm) (fun e => e2 e.symm)
    · -- a closer with a partner
      have hne : 0 < (S.stk (otherS (ix l i))).length := by rcases hh : S.stk (otherS (ix l i)) with _ | ⟨a, b⟩; exact absurd hh hS; simp
      obtain ⟨hst1, p, hp, hm⟩ := (h.stks _ _ k0).pop rfl k0.ne hne
      have hlt := hm.lt
      have e : pStep (ix l i) i S = ⟨((S.out.set i (-1)).set i (p : Int)).set p (i : Int), fun y => if y = otherS (ix l i) then (S.stk (otherS (ix l i))).dropLast else S.stk y⟩ := by
        simp only [pStep, k1, k2, hS, if_false, hp]; rfl
      rw [e]
      have hout : ∀ x, x < i → x ≠ p → ix (((S.out.set i (-1)).set i (p : Int)).set p (i : Int)) x = ix S.out x := fun x hx hxp => by rw [ixS_ne (by omega), ixS_ne (by omega), ixS_ne (by omega)]
      have houti : ix (((S.out.set i (-1)).set i (p : Int)).set p (i : Int)) i = p := by rw [ixS_ne (by omega), ixS_eq (by simp; omega)]
      have houtp : ix (((S.out.set i (-1)).set i (p : Int)).set p (i : Int)) p = i := by rw [ixS_eq (by simp; omega)]
      refine ⟨fun x hx hx2 => ?_, fun o s hk x hx hx2 => ?_, fun o s hk x hx hx2 => ?_, fun o s hk => ?_⟩
      · by_cases e : x = i
        · subst e; exact absurd hx2 k1
        · have hxp : x ≠ p := fun e => by subst e; rw [hm.opener] at hx2; exact k0.other.2.2.2.2.1 (by rw [← k0.other.1]; exact hx2)
          show ix _ x = _; rw [hout x (by omega) hxp]; exact h.others x (by omega) hx2
      · by_cases e : x = i
        · subst e; subst hx2; obtain rfl := hk.sameO k0
          exact .inl ⟨p, hm, houti⟩
        · have hxp : x ≠ p := fun e => by subst e; exact k0.apart hk (hm.opener.symm.trans hx2)
          show (∃ p' : Nat, _ ∧ ix (((S.out.set i (-1)).set i (p : Int)).set p (i : Int)) x = _) ∨ (ix (((S.out.set i (-1)).set i (p : Int)).set p (i : Int)) x = _ ∧ _)
          rw [hout x (by omega) hxp]; exact h.closers o s hk x (by omega) hx2
      · by_cases e : x = i
        · subst e; exact absurd hx2.symm (hk.apart k0)
        · by_cases hxp : x = p
          · subst hxp
            have : o = otherS (ix l i) := hx2.symm.trans hm.opener
            subst this
            obtain rfl := hk.same k0
            exact .inl ⟨i, by omega, hm, houtp⟩
          · show (∃ j, _ ∧ _ ∧ ix (((S.out.set i (-1)).set i (p : Int)).set p (i : Int)) x = _) ∨ (ix (((S.out.set i (-1)).set i (p : Int)).set p (i : Int)) x = _ ∧ ∃ q, q < (if o = otherS (ix l i) then (S.stk (otherS (ix l i))).dropLast else S.stk o).length ∧ ix (if o = otherS (ix l i) then (S.stk (otherS (ix l i))).dropLast else S.stk o) q = _)
            rw [hout x (by omega) hxp]
            rcases h.openers o s hk x (by omega) hx2 with ⟨j, h1, h2, h3⟩ | ⟨h1, q, h2, h3⟩
            · exact .inl ⟨j, by omega, h2, h3⟩
            · refine .inr ⟨h1, q, ?_⟩
              split
              · rename_i e2
                subst e2
                have : q ≠ (S.stk (otherS (ix l i))).length - 1 := fun e => hxp (by rw [← e, h3] at hp; exact_mod_cast hp)
                exact ⟨by simp; omega, by rw [ix_lastP (by omega)]; exact h3⟩
              · exact ⟨h2, h3⟩
      · show StkI l o s (i + 1) (if o = otherS (ix l i) then (S.stk (otherS (ix l i))).dropLast else S.stk o)
        split
        · rename_i e2; subst e2; obtain rfl := hk.same k0; exact hst1
        · rename_i e2
          exact (h.stks o s hk).skip (fun e => hk.apart k0 e.symm) (fun e => e2 (by subst e; exact hk.sameO k0))

theorem OutI.run (l : List Int) (n i : Nat) (hi : i ≤ n) : OutI l i (pRun l n i) := by
  induction i with
  | zero => exact ⟨fun x hx => by omega, fun o s hk x hx => by omega, fun o s hk x hx => by omega, fun o s hk => StkI.zero l o s⟩
  | succ i ih => exact (ih (by omega)).step (n := n) (pRun_len l n i) (by omega)

/-- what Partner answers at place k -/
def PartnerP (l : List Int) (n k : Nat) (r : Int) : Prop :=
  if openS (ix l k) = 0 then r = -1
  else if ix l k = closeS (ix l k) then PartP l (closeS (ix l k)) (openS (ix l k)) (fun t => k - t) (k + 1) r
  else PartP l (openS (ix l k)) (closeS (ix l k)) (fun t => k + t) (n - k) r
theorem PartP.one {l : List Int} {o s : Int} {at' : Nat → Nat} {m : Nat} {r r' : Int} (h : PartP l o s at' m r) (h' : PartP l o s at' m r') : r = r' := by
  rcases h with ⟨t, h1, h2, h3, h4⟩ | ⟨h1, h2⟩ <;> rcases h' with ⟨t', h1', h2', h3', h4'⟩ | ⟨h1', h2'⟩
  · have : t = t' := by
      rcases Nat.lt_trichotomy t t' with h | h | h
      · exact absurd h2 (h3' t h)
      · exact h
      · exact absurd h2' (h3 t' h)
    subst this; rw [h4, h4']
  · exact absurd h2 (h1' t h1)
  · exact absurd h2' (h1 t' h1')
  · rw [h2, h2']
theorem PartnerP.one {l : List Int} {n k : Nat} {r r' : Int} (h : PartnerP l n k r) (h' : PartnerP l n k r') : r = r' := by
  unfold PartnerP at h h'
  split at h
  · rename_i e; rw [if_pos e] at h'; rw [h, h']
  · rename_i e; rw [if_neg e] at h'
    split at h
    · rename_i e; rw [if_pos e] at h'; exact h.one h'
    · rename_i e; rw [if_neg e] at h'; exact h.one h'
theorem pairs_partner (l : List Int) (n k : Nat) (hk : k < n) : PartnerP l n k (ix (pRun l n n).out k) := by
  have h := OutI.run l n n (Nat.le_refl _)
  have hop : ∀ o s, IsKind o s → openS o = o ∧ closeS o = s ∧ openS s = o ∧ closeS s = s := by
    rintro o s (⟨rfl, rfl⟩ | ⟨rfl, rfl⟩ | ⟨rfl, rfl⟩) <;> simp [openS, closeS]
  unfold PartnerP
  rcases kindOf (ix l k) with ⟨k0, k1⟩ | ⟨k0, k1, k2⟩ | ⟨k0, k1, k2⟩
  · have h40 := k1 40 41 (.inl ⟨rfl, rfl⟩)
    have h91 := k1 91 93 (.inr (.inl ⟨rfl, rfl⟩))
    have h123 := k1 123 125 (.inr (.inr ⟨rfl, rfl⟩))
    rw [if_pos (by simp [openS, h40, h91, h123])]
    exact h.others k hk k0
  · have hh := k0.other
    have ho := hop _ _ k0
    rw [ho.1, ho.2.1, if_neg hh.2.2.2.2.2, if_neg k0.ne]
    rcases h.openers _ _ k0 k hk rfl with ⟨j, h1, h2, h3⟩ | ⟨h1, q, h2, h3⟩
    · rw [h3]; exact h2.up h1
    · rw [h1]
      obtain ⟨p, e1, e2, e3, e4, e5⟩ := (h.stks _ _ k0).place q h2
      obtain rfl : p = k := by rw [h3] at e1; exact_mod_cast e1.symm
      exact lone_up e4 hk
  · have hh := k0.other
    have ho := hop _ _ k0
    rw [ho.2.2.1, ho.2.2.2, if_neg hh.2.2.2.2.2, if_pos rfl]
    rcases h.closers _ _ k0 k hk rfl with ⟨p, h1, h2⟩ | ⟨h1, h2⟩
    · rw [h2]; exact h1.down
    · rw [h1]; exact lone_down h2

end Go.Proofs.Ytbgbcmfgncneiaa
