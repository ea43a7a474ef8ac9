/- A range over a function whose words lie in memory: what a round does, what lies behind. -/
import Derived.Test.YtmipnikhgihcpaaTrie8
namespace Go.Proofs.Ytmipnikhgihcpaa
open Go.RowKit Go.Shelf
set_option linter.unusedVariables false
set_option linter.unusedSimpArgs false

theorem ikeep_put {n0 : Nat} (W : World) (l : Nat) (o o' : Obj) (hl : n0 ≤ l) (h : W.heap[l]? = some o) (ho : o.isCells = false) : IKeep n0 W (W.putObj l o') := by
  have hlt := (Array.getElem?_eq_some_iff.1 h).1
  refine ⟨(Below.refl n0 W).grown (grownBy_putObj' W l o') (by omega) (fun k e => by cases e; exact hl), fun k cs fr hk => ?_⟩
  have hne : k ≠ l := by
    rintro rfl
    rw [h] at hk
    cases hk
    simp [Obj.isCells] at ho
  exact (World.putObj_heap_other hne).trans hk
theorem YV.keep {n0 : Nat} {W W' : World} {v : Value} {x : List Int} (h : YV n0 W v x) (hk : IKeep n0 W W') : YV n0 W' v x := by
  obtain ⟨a, n, c, h1, h2, h3, h4, h5, h6⟩ := h
  exact ⟨a, n, c, h1, h2, h3, h4, h5, h6.keep hk⟩
/-- how a round's body may be left -/
def RPost (n0 : Nat) (I : List (List Int) → World → Prop) (Ix : Nat → List (List Int) → World → Prop) (s : List (List Int)) (W : World) : Exit → Act → World → Prop
  | .normal, _, W' => KeepsOthers W W' ∧ IKeep n0 W W' ∧ I s W'
  | .exit id, _, W' => KeepsOthers W W' ∧ IKeep n0 W W' ∧ Ix id s W'
  | _, _, _ => False
/-- an iterator that hands out these words, each in cells that it leaves alone -/
def Hands (n0 n : Nat) (gf : FuncId) (lb : Array Value) (ws : List (List Int)) (w : World) : Prop :=
  ∀ (l : Nat) (J Jx : List (List Int) → World → Prop) (W1 : World), Below w.heap.size w W1 → (∀ s W W', J s W → Below W.heap.size W W' → J s W') →
    (∀ m pre v x W, J pre W → pre.length < ws.length → YV n0 W v x → YieldAt Fence.wide m Try.prog l #[v] W (YPost n0 J Jx pre x W)) → J [] W1 →
    CallsIn Fence.wide n Try.prog gf (#[.func (.yield l) #[] #[]] ++ lb) W1 fun e W' => (∃ v, e = .returned v) ∧ (J ws W' ∨ ∃ q, q <+: ws ∧ Jx q W')

theorem wp_hands {n0 n : Nat} {g : Operand} {p : Tmp} {assign body : Code} {Q : Exit → Act → World → Prop} {a : Act} {w : World} {gf : FuncId} {lb : Array Value} {ws : List (List Int)}
    (hg : a.eval g = .func (.func gf) #[] lb) (eg : ∀ args w, (callFunc gf args).run Try.prog w = .ok (.enter gf args) w) (hn0 : n0 ≤ w.heap.size) (hit : Hands n0 (n - 1) gf lb ws w)
    (I : List (List Int) → World → Prop) (Ix : Nat → List (List Int) → World → Prop) (a₁ : Value → Act)
    (hIb : ∀ s W W', I s W → Below W.heap.size W W' → I s W')
    (hIp : ∀ s W l o o', I s W → w.heap.size ≤ l → W.heap[l]? = some o → o.isCells = false → I s (W.putObj l o'))
    (hXp : ∀ id s W l o o', Ix id s W → w.heap.size ≤ l → W.heap[l]? = some o → o.isCells = false → Ix id s (W.putObj l o'))
    (h0 : I [] w)
    (hassign : ∀ (l m : Nat) (v : Value) (W : World) (K : Act → World → Prop), K (a₁ v) W → assign.wpIn (Fence.wide.inRound l) m Try.prog (Exit.then K (fun _ _ _ => False)) { tmps := (#[p].zip #[v]).foldl (fun t (p, v) => t.setIfInBounds p v) a.tmps, defers := [] } W)
    (hbody : ∀ (l m : Nat) (pre : List (List Int)) (v : Value) (x : List Int) (W : World), I pre W → pre.length < ws.length → YV n0 W v x → body.wpIn (Fence.wide.inRound l) m Try.prog (RPost n0 I Ix (pre ++ [x]) W) (a₁ v) W)
    (hdone : ∀ (D : Nat) (W : World), w.heap.size ≤ D → I ws W → W.heap[D]? = some (.deferred (some [])) → Q .normal { a with defers := { target := .collected D, args := #[] } :: a.defers } W)
    (hstop : ∀ (D id : Nat) (q : List (List Int)) (W : World), w.heap.size ≤ D → q <+: ws → Ix id q W → W.heap[D]? = some (.deferred (some [])) → (Code.exit id).wpIn Fence.wide n Try.prog Q { a with defers := { target := .collected D, args := #[] } :: a.defers } W) :
    (Code.rangeFunc g #[p] assign body).wpIn Fence.wide n Try.prog Q a w := by
  refine wpIn_rangeFunc fun fn hfn => ?_
  let rec' : LoopState → Option Code → Loop := fun st pe => { state := st, pending := pe, fn, tmps := a.tmps, params := #[p], assign, body, defers := w.heap.size }
  obtain ⟨rec, hrec⟩ : ∃ r, rec' = r := ⟨_, rfl⟩
  obtain ⟨W1, hW1⟩ : ∃ W1, (w.alloc (.deferred (some []))).alloc (.loop (rec .ready none)) = W1 := ⟨_, rfl⟩
  have hL : W1.heap[w.heap.size + 1]? = some (.loop (rec .ready none)) := by
    have := World.alloc_heap_new (w.alloc (.deferred (some []))) (.loop (rec .ready none))
    rw [World.size_alloc, hW1] at this
    exact this
  have hD : W1.heap[w.heap.size]? = some (.deferred (some [])) := by
    rw [← hW1]; exact (Below.heap_alloc _ _ _ (by rw [World.size_alloc]; omega)).trans (World.alloc_heap_new w _)
  have hb1 : Below w.heap.size w W1 := by rw [← hW1]; exact below2 w _ _
  -- the record of a loop under way, and the block beside it
  let J : List (List Int) → World → Prop := fun s W => I s W ∧ W.heap[w.heap.size + 1]? = some (.loop (rec .ready none)) ∧ W.heap[w.heap.size]? = some (.deferred (some []))
  let Jx : List (List Int) → World → Prop := fun s W => ∃ id, Ix id s W ∧ W.heap[w.heap.size + 1]? = some (.loop (rec .done (some (.exit id)))) ∧ W.heap[w.heap.size]? = some (.deferred (some []))
  refine ⟨w.heap.size + 1, [{ target := .collected w.heap.size, args := #[] }], W1, { target := .fn (.func gf) lb, args := #[.func (.yield (w.heap.size + 1)) #[] #[]] }, W1, gf,
    #[.func (.yield (w.heap.size + 1)) #[] #[]] ++ lb, W1, ?_, ?_, fun _ _ => trivial, ?_, wide_d _, ?_⟩
  · rw [← hW1, ← hrec]; exact run_enterLoop_outer _ _ _ _ _
  · simp only [resolve, hg]
    simp [go_sem]
  · simp [invoke, go_sem, eg]
  refine (hit (w.heap.size + 1) J Jx W1 hb1 ?_ ?_ ⟨hIb _ _ _ h0 hb1, hL, hD⟩).mono ?_
  · -- what the iterator lays of its own is beyond
    rintro s W W' ⟨h1, h2, h3⟩ hb
    exact ⟨hIb _ _ _ h1 hb, (hb.block _ (Array.getElem?_eq_some_iff.1 h2).1).trans h2, (hb.block _ (Array.getElem?_eq_some_iff.1 h3).1).trans h3⟩
  · -- a round
    rintro m pre v x W ⟨hi, hl, hd⟩ hlen hv
    have hlt : w.heap.size + 1 < W.heap.size := (Array.getElem?_eq_some_iff.1 hl).1
    have hy := run_yield (P := Try.prog) (args := #[v]) hl (by rw [← hrec]; rfl)
    rw [← hrec] at hy
    refine ⟨fn, _, assign, body, hy, roundIn_of_wpIn hfn ?_⟩
    refine hassign _ m v W _ ?_
    refine ⟨_, run_beginRound hl (by rw [← hrec]), ?_⟩
    obtain ⟨W2, hW2⟩ : ∃ W2, W.putObj (w.heap.size + 1) (.loop { rec .ready none with state := .busy }) = W2 := ⟨_, rfl⟩
    rw [hW2]
    have hl2 : W2.heap[w.heap.size + 1]? = some (.loop { rec .ready none with state := .busy }) := by rw [← hW2]; exact World.putObj_heap_same hlt
    have hd2 : W2.heap[w.heap.size]? = some (.deferred (some [])) := by rw [← hW2]; exact (World.putObj_heap_other (by omega)).trans hd
    have hk2 : IKeep n0 W W2 := by rw [← hW2]; exact ikeep_put W _ _ _ (by omega) hl rfl
    have hi2 : I pre W2 := by rw [← hW2]; exact hIp _ _ _ _ _ hi (by omega) hl rfl
    refine wpIn_mono (hbody _ m pre v x W2 hi2 hlen (hv.keep hk2)) ?_
    rintro e a3 W3 hp
    cases e with
    | normal =>
      obtain ⟨g1, g2, g3⟩ := hp
      have hl3 := g1.same _ _ hl2 rfl
      have hd3 := g1.same _ _ hd2 rfl
      have hl3' := hl3
      have hr := run_endRound (P := Try.prog) none hl3
      have hlt3 := (Array.getElem?_eq_some_iff.1 hl3).1
      refine ⟨_, _, hr, true, rfl, .inl ⟨rfl, hIp _ _ _ _ _ g3 (by omega) hl3' rfl, ?_, (World.putObj_heap_other (by omega)).trans hd3⟩, (hk2.trans g2).trans (ikeep_put W3 _ _ _ (by omega) hl3' rfl)⟩
      rw [World.putObj_heap_same hlt3, ← hrec]
      rfl
    | exit id =>
      obtain ⟨g1, g2, g3⟩ := hp
      have hl3 := g1.same _ _ hl2 rfl
      have hd3 := g1.same _ _ hd2 rfl
      have hr := run_endRound (P := Try.prog) (some (.exit id)) hl3
      have hlt3 := (Array.getElem?_eq_some_iff.1 hl3).1
      refine ⟨_, _, hr, false, rfl, .inr ⟨rfl, id, hXp _ _ _ _ _ _ g3 (by omega) hl3 rfl, ?_, (World.putObj_heap_other (by omega)).trans hd3⟩, (hk2.trans g2).trans (ikeep_put W3 _ _ _ (by omega) hl3 rfl)⟩
      rw [World.putObj_heap_same hlt3, ← hrec]
      rfl
    | ret => exact hp.elim
    | goto t => exact hp.elim
    | panic ch => exact hp.elim
    | outgrown => exact hp.elim
  · -- behind it
    rintro e W2 ⟨⟨v, rfl⟩, ⟨hi, hl, hd⟩ | ⟨q, hq, id, hx, hl, hd⟩⟩
    · have hr := run_endLoop (P := Try.prog) hl (by rw [← hrec]; simp [rec'])
      rw [← hrec] at hr
      exact ⟨none, _, hr, hdone _ _ (Nat.le_refl _) (hIp _ _ _ _ _ hi (by omega) hl rfl) ((World.putObj_heap_other (by omega)).trans hd)⟩
    · have hr := run_endLoop (P := Try.prog) hl (by rw [← hrec]; simp [rec'])
      rw [← hrec] at hr
      exact ⟨some (.exit id), _, hr, hstop _ id q _ (Nat.le_refl _) hq (hXp _ _ _ _ _ _ hx (by omega) hl rfl) ((World.putObj_heap_other (by omega)).trans hd)⟩

end Go.Proofs.Ytmipnikhgihcpaa
