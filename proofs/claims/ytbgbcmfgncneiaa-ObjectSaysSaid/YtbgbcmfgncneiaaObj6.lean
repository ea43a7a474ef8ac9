/- Contract of object.brackets. -/
import Derived.Test.YtbgbcmfgncneiaaObj5
import Derived.Test.YtbgbcmfgncneiaaDyckW
namespace Go.Proofs.Ytbgbcmfgncneiaa
open Go.RowKit
set_option linter.unusedVariables false
set_option linter.unusedSimpArgs false

theorem partner_range {l : List Int} {n k : Nat} {r : Int} (h : PartnerP l n k r) (hk : k < n) : -1 ≤ r ∧ r < n := by
  unfold PartnerP at h
  split at h
  · omega
  · split at h
    · rcases h with ⟨t, h1, _, _, rfl⟩ | ⟨_, rfl⟩
      · show -1 ≤ ((k - t : Nat) : Int) ∧ ((k - t : Nat) : Int) < n; omega
      · omega
    · rcases h with ⟨t, h1, _, _, rfl⟩ | ⟨_, rfl⟩
      · show -1 ≤ ((k + t : Nat) : Int) ∧ ((k + t : Nat) : Int) < n; omega
      · omega
def BFound (l ps : List Int) (k : Nat) (o : Int) (i : Nat) : Prop := ix l i = o ∧ (k : Int) ≤ ix ps i
def BracketsPost (l ps : List Int) (k : Nat) (around : Bool) (o : Int) (w : World) (e : Ending) (w' : World) : Prop :=
  ((∃ i, i < l.length ∧ i ≤ k ∧ BFound l ps k o i ∧ (∀ j, i < j → j ≤ k → j < l.length → ¬ BFound l ps k o j) ∧
      e = .returned (.tuple #[.agg #[.int .i64 (if around = true then (i : Int) else (i : Int) + 1), .int .i64 (if around = true then ix ps i + 1 else ix ps i)], .int .i64 0])) ∨
   ((∀ i, i < l.length → i ≤ k → ¬ BFound l ps k o i) ∧ e = .returned (.tuple #[.agg #[.int .i64 0, .int .i64 0], .int .i64 6]))) ∧ Below w.heap.size w w'

set_option maxRecDepth 100000 in
set_option maxHeartbeats 1000000 in
theorem object_brackets (a : Option Addr) (n c : Nat) (l ps : List Int) (hps : (pRun l n n).out = ps) (k : Nat) (around : Bool) (o : Int) (w : World) (ha : Ints w a l) (hn : l.length = n) (h2 : n ≤ 4096) (hk : k ≤ 4096) :
    Calls Try.prog 115 #[.slice a n c, .int .i64 (k : Int), .bool around, .int .i64 o] w (BracketsPost l ps k around o w) := by
  have HN := Lib.hid hn; clear hn
  have HPS := Lib.hid hps; clear hps
  have HPR := Lib.hid (fun i (hi : i < n) => (by rw [← HPS.out]; exact partner_range (pairs_partner l n i hi) hi : -1 ≤ ix ps i ∧ ix ps i < n))
  have HPL := Lib.hid (show ps.length = n by rw [← HPS.out]; exact pRun_len l n n)
  have hA := Blk.new w #[.int .i64 0, .int .i64 0] 167
  have hb := below1 w (.cells #[.int .i64 0, .int .i64 0] 167)
  go_enter Try.func115, Try.ntmps115
  go_wp2_with fail
  refine (dyck_pairs a n c l _ (ha.below hb) HN.out h2).mono ?_
  rintro e w2 ⟨g, rfl, hI, hb2⟩
  have hA2 := hA.below hb2 hA.lt
  have hbb := below_then hb hb.size hb2
  have ha2 := ha.below hbb
  clear hA hb hb2
  rw [HPS.out] at hI
  obtain ⟨d0, d1, f0, f1⟩ := hA2.two
  have hcell : ∀ i, i < n → w2.cell? ⟨g, i, none⟩ = some (.int .i64 (ix ps i)) := fun i hi => by
    obtain ⟨b4, o4, hb4, hc4⟩ := hI.at (k := i) (by rw [HPL.out]; exact hi)
    simp only [Option.some.injEq, Addr.mk.injEq] at hb4
    obtain ⟨rfl, rfl, -⟩ := hb4
    have := hc4 i (by rw [HPL.out]; exact hi)
    rwa [Nat.zero_add] at this
  have HCL := Lib.hid hcell
  clear hcell hI
  go_wp2
  all_goals
    go_loopw [12] (fun v wr => ∃ j : Nat, v = .int .i64 ((j : Int) - 1) ∧ j ≤ n ∧ j ≤ k + 1 ∧ (∀ i, j ≤ i → i ≤ k → i < n → ¬ BFound l ps k o i) ∧ w2 = wr) (fun v _ => (intOf v + 1).toNat)
    case atStart =>
      first
      | exact ⟨k + 1, by go_num, by omega, by omega, fun i h1 h2 h3 => by omega, rfl⟩
      | exact ⟨n, by go_num, by omega, by omega, fun i h1 h2 h3 => by omega, rfl⟩
    case round =>
      obtain ⟨j, rfl, hj, hjk, hno, rfl⟩ := hrel
      have HNO := Lib.hid hno
      clear hno
      by_cases hj0 : j = 0
      · subst hj0
        go_wp2
        obtain ⟨z0, z1, -, -⟩ := Blk.two ((hA2.set 0 (.int .i64 0)).set 1 (.int .i64 0))
        refine bodyPost_ret (v := .tuple #[.agg #[.int .i64 0, .int .i64 0], .int .i64 6]) (by simp [results, Try.results115, go_sem, z0, z1]) rfl ?_
        exact ⟨.inr ⟨fun i h1 h2 => HNO.out i (by omega) h2 (by rw [HN.out] at h1; exact h1), rfl⟩, (hbb.setCell (p := ⟨w.heap.size, 0, none⟩) (Nat.le_refl _) _).setCell (p := ⟨w.heap.size, 1, none⟩) (Nat.le_refl _) _⟩
      · obtain ⟨i, rfl⟩ : ∃ i, j = i + 1 := ⟨j - 1, by omega⟩
        have hin : i < n := by omega
        obtain ⟨b1, o1, rfl, hc0⟩ := ha2.at (k := i) (by rw [HN.out]; exact hin)
        have ck := hc0 i (by rw [HN.out]; exact hin)
        have cp := HCL.out i hin
        obtain ⟨hr0, hr1⟩ := HPR.out i hin
        have ij : ((i + 1 : Nat) : Int) - 1 = (i : Int) := by omega
        have ii : (i : Int) < (n : Int) := by omega
        rw [ij]
        clear hc0
        by_cases hq : ix l i = o
        · have g1 : (ix l i == o) = true := by simpa using hq
          by_cases hp : (k : Int) ≤ ix ps i
          · have HF := Lib.hid (show BFound l ps k o i from ⟨hq, hp⟩)
            clear hq
            first
            | (exfalso; omega)
            | (
              rcases around with _ | _
              · go_wp2
                obtain ⟨z0, z1, -, -⟩ := Blk.two ((hA2.set 0 (.int .i64 ((i : Int) + 1))).set 1 (.int .i64 (ix ps i)))
                refine bodyPost_ret (v := .tuple #[.agg #[.int .i64 ((i : Int) + 1), .int .i64 (ix ps i)], .int .i64 0]) (by simp [results, Try.results115, go_sem, z0, z1]) rfl ?_
                exact ⟨.inl ⟨i, by rw [HN.out]; exact hin, by omega, HF.out, fun j h1 h2 h3 => HNO.out j (by omega) h2 (by rw [HN.out] at h3; exact h3), rfl⟩, (hbb.setCell (p := ⟨w.heap.size, 0, none⟩) (Nat.le_refl _) _).setCell (p := ⟨w.heap.size, 1, none⟩) (Nat.le_refl _) _⟩
              · go_wp2
                obtain ⟨z0, z1, -, -⟩ := Blk.two ((hA2.set 0 (.int .i64 (i : Int))).set 1 (.int .i64 (ix ps i + 1)))
                refine bodyPost_ret (v := .tuple #[.agg #[.int .i64 (i : Int), .int .i64 (ix ps i + 1)], .int .i64 0]) (by simp [results, Try.results115, go_sem, z0, z1]) rfl ?_
                exact ⟨.inl ⟨i, by rw [HN.out]; exact hin, by omega, HF.out, fun j h1 h2 h3 => HNO.out j (by omega) h2 (by rw [HN.out] at h3; exact h3), rfl⟩, (hbb.setCell (p := ⟨w.heap.size, 0, none⟩) (Nat.le_refl _) _).setCell (p := ⟨w.heap.size, 1, none⟩) (Nat.le_refl _) _⟩)
          · have HNF := Lib.hid (show ¬ BFound l ps k o i from fun h => hp h.2)
            clear hq
            go_wp2
            go_roundw
            case rel =>
              refine ⟨i, by go_num, by omega, by omega, ?_, by first | rfl | trivial⟩
              intro j h1 h2 h3
              by_cases e : j = i
              · rw [e]; exact HNF.out
              · exact HNO.out j (by omega) h2 h3
            case measure => simp [intOf]
        · have g1 : (ix l i == o) = false := by simpa using hq
          have HNF := Lib.hid (show ¬ BFound l ps k o i from fun h => hq h.1)
          clear hq
          go_wp2
          go_roundw
          case rel =>
            refine ⟨i, by go_num, by omega, by omega, ?_, by first | rfl | trivial⟩
            intro j h1 h2 h3
            by_cases e : j = i
            · rw [e]; exact HNF.out
            · exact HNO.out j (by omega) h2 h3
          case measure => simp [intOf]

end Go.Proofs.Ytbgbcmfgncneiaa
