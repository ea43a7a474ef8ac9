/- Contract of (*trie.Trie).More where words begin with p. -/
import Derived.Test.YtmipnikhgihcpaaTrieH
namespace Go.Proofs.Ytmipnikhgihcpaa
open Go.RowKit
set_option linter.unusedVariables false
set_option linter.unusedSimpArgs false

def lenV : Value → Nat
  | .slice _ n _ => n
  | _ => 0
theorem own_len {base : Nat} {w : World} {v : Value} {xs : List Int} (h : Own 3 base w v xs) : lenV v = xs.length := by
  obtain ⟨a, n, c, rfl⟩ := h.form
  exact h.get.1.symm
set_option maxRecDepth 100000 in
set_option maxHeartbeats 4000000 in
theorem trie_more (bs : Nat) (A S : List (List Int)) (B : Nat → Nat) (M : Nat → Option Nat) (hI : TInv A S) (a : Option Addr) (n c : Nat) (p : List Int) (w : World) (hH : TrH w bs A B M (inS S) (cnt S)) (ha : Ints w a p) (hn : p.length = n) (hc : n ≤ c) (hmax : c ≤ 9223372036854775807) (h0 : 0 < cnt S p) :
    Calls Try.prog 77 #[.pointer (some ⟨B 0, 0, none⟩), .slice a n c] w (fun e w' => ∃ v out, e = .returned (.tuple #[v, .int .i64 0]) ∧ MoreT A S p out ∧ Own 3 w.heap.size w' v out ∧ Below w.heap.size w w') := by
  have HC := Lib.hid (trie_at bs A S B M _ _ hI a n c p w hH ha hn hc hmax)
  have hp : p ∈ A := Classical.byContradiction fun h => by have := (hI.none h).2; omega
  obtain ⟨y, hy, hr⟩ := mem_rx hp
  obtain ⟨-, -, y2, -, -, -⟩ := (hH.blk y hy).three
  rw [hr] at y2
  obtain ⟨z, hz⟩ : ∃ z, cnt S p = z := ⟨_, rfl⟩
  rw [hz] at y2 h0
  have hz0 : ((z : Int) == 0) = false := by simpa using (by omega : ¬ (z : Int) = 0)
  have HI := Lib.hid hI; have HP := Lib.hid hp; have HR := Lib.hid hr; have HH := Lib.hid hH
  clear hI hH ha hn hp hr hz
  go_enter Try.func77, Try.ntmps77
  go_wp2_with (go_at_call 137; go_loud (refine (HC.out).mono ?_; rintro e w3 ⟨o, rfl, ho, rfl⟩; obtain rfl : o = some ⟨B y, 0, none⟩ := (by rcases ho with ⟨h, _⟩ | ⟨z, hz, hrz, rfl⟩; exact absurd HP.out h; rw [rx_inj HI.out.nodup hz hy (hrz.trans HR.out.symm)])))
  go_loopw [7, 6] (fun t x wr => ∃ (y : Nat) (ext : List Int), x = .pointer (some ⟨B y, 0, none⟩) ∧ y < A.length ∧ rx A y = p ++ ext ∧ (∀ i, i < ext.length → Lone A S (p ++ ext.take i)) ∧ Own 3 w.heap.size wr t ext ∧ Below w.heap.size w wr) (fun t _ _ => 30 - lenV t)
  case atStart => exact ⟨y, [], rfl, hy, by rw [HR.out]; simp, fun i hi => by simp at hi, Own.nil _ _ _, Below.refl _ _⟩
  case round =>
    clear HR y2 hy
    obtain ⟨y, ext, rfl, hy, hr, hl, ho, hb⟩ := hrel
    have hHr := HH.out.kept hb
    obtain ⟨y0, y1, -, -, -, -⟩ := (hHr.blk y hy).three
    have HO := Lib.hid ho; have HB := Lib.hid hb; have HL := Lib.hid hl; have HR := Lib.hid hr
    obtain ⟨b, hbb⟩ : ∃ b, inS S (rx A y) = b := ⟨_, rfl⟩
    rw [hbb] at y1
    have HBB := Lib.hid hbb
    clear ho hb hl hr hbb
    cases b with
    | true =>
      have HE := Lib.hid (show MoreT A S p ext from ⟨HL.out, y, hy, HR.out, .inl HBB.out⟩)
      clear hHr
      go_wp2
      go_ret2
      exact ⟨_, ext, rfl, HE.out, HO.out, HB.out⟩
    | false =>
      cases hM : M y with
      | none =>
        rw [hM] at y0
        have HE := Lib.hid (show MoreT A S p ext from ⟨HL.out, y, hy, HR.out, .inr (by rw [hHr.nil y hy hM]; simp)⟩)
        clear hHr
        go_wp2
        go_ret2
        exact ⟨_, ext, rfl, HE.out, HO.out, HB.out⟩
      | some mb =>
        rw [hM] at y0
        have hMB := hHr.map y mb hy hM
        have hraw : wr.heap[mb]? = some (.map (kidX A B y) (kidsT A y).length) := hMB
        have hsz := kidX_size A B y
        obtain ⟨kl, hkl⟩ : ∃ kl, (kidsT A y).length = kl := ⟨_, rfl⟩
        have hln : ∀ ty, (Builtin.len_ #[212] ty #[.map (some mb)]).run Try.prog wr = .ok (.int .i64 (kl : Int)) wr := fun ty => by
          simp [Builtin.len_, run_underlying Try.underlying212, getObj, Sem.run, hraw, hsz, hkl, goInt, Result.andThen]
        rw [hkl] at hraw hMB hsz
        have HKL := Lib.hid hkl
        by_cases h1 : kl = 1
        · subst h1
          obtain ⟨k0, hk0⟩ := List.length_eq_one_iff.1 HKL.out
          obtain ⟨g1, g2⟩ := mem_kidsT.1 (show k0 ∈ kidsT A y by rw [hk0]; simp)
          obtain ⟨ky, hky⟩ : ∃ ky, keyT (rx A k0) = ky := ⟨_, rfl⟩
          rw [hky] at g2
          have HKY := Lib.hid hky
          have hlone := HL.out
          have HNX := Lib.hid (show ∀ i, i < (ext ++ [ky]).length → Lone A S (p ++ (ext ++ [ky]).take i) from fun i hi => by
            rw [List.length_append, List.length_singleton] at hi
            by_cases h : i < ext.length
            · rw [List.take_append_of_le_length (by omega)]; exact hlone i h
            · obtain rfl : i = ext.length := by omega
              rw [List.take_left', ← HR.out]
              · exact ⟨HBB.out, y, hy, rfl, HKL.out⟩
              · rfl)
          have HR0 := Lib.hid (show rx A k0 = p ++ (ext ++ [ky]) by rw [g2, HR.out, List.append_assoc])
          have hle : ext.length ≤ 24 := by have := HI.out.short _ (rx_memT hy); rw [HR.out, List.length_append] at this; omega
          have hones : ((1 : Nat) : Int) = 1 := rfl
          have hrg := run_range_map (P := Try.prog) wr 212 3 120 mb (kidX A B y) 1 Try.underlying212 hMB
          have HMW := Lib.hid (show MapB w mb (kidX A B y) 1 from HKL.out ▸ HH.out.map y mb hy hM)
          have HK0 := Lib.hid hk0
          have hIt0 : IterB (wr.alloc (.mapIter (some mb) 1 #[] 1)) wr.heap.size mb 1 #[] 1 := heap_alloc_new wr _
          have HIT0 := Lib.hid hIt0; have HMB := Lib.hid hMB
          have hrM : wr.heap.size ≠ mb := by have := hMB.lt; omega
          have hbs := HB.out.size
          clear hIt0 hHr hlone hky g2 hraw hsz hkl
          go_wp2
          clear hrg y0 y1 hln
          obtain ⟨r, hrr⟩ : ∃ r, wr.heap.size = r := ⟨_, rfl⟩
          rw [hrr] at hrM HIT0 hbs ⊢
          have HB1 := Lib.hid (show Below w.heap.size w (wr.alloc (.mapIter (some mb) 1 #[] 1)) from HB.out.alloc (by rw [hrr]; exact hbs) _)
          have HO1 := Lib.hid (HO.out.alloc (.mapIter (some mb) 1 #[] 1))
          clear hrr
          go_loopw [7, 6] (fun t x wi => ∃ seen, IterB wi r mb 1 seen 1 ∧ Below w.heap.size w wi ∧ ((seen = #[] ∧ x = .pointer (some ⟨B y, 0, none⟩) ∧ Own 3 w.heap.size wi t ext) ∨ (seen = #[0] ∧ x = .pointer (some ⟨B k0, 0, none⟩) ∧ Own 3 w.heap.size wi t (ext ++ [ky])))) (fun _ _ wi => (leftOf (kidX A B y) (wi.iterSeen r)).size)
          case atStart => exact ⟨#[], HIT0.out, HB1.out, .inl ⟨rfl, rfl, HO1.out⟩⟩
          case round =>
            obtain ⟨seen, hIt, hbi, hst⟩ := hrel
            have hmp := HMW.out.below hbi
            have HIT := Lib.hid hIt; have HMP := Lib.hid hmp; have HBI := Lib.hid hbi; have HST := Lib.hid hst
            have HSEEN := Lib.hid (IterB.seenIs hIt)
            have hdum : True := trivial
            clear hIt hbi hst hmp
            go_wp2_with (show wpList _ _ _ (⟨some 40, _, _, _, _, _⟩ :: _) _ _; revert hdum)
            intro hdum
            refine next_at2 rfl _ rfl r mb 1 1 seen (kidX A B y) rfl HIT.out HMP.out (fun x hx => by have := kidX_lt x hx; rwa [HKL.out] at this) (Nat.le_refl _) (kidX_nodup A B y) hrM ?_ ?_
            · intro hall
              have h0s : 0 ∈ seen := by
                have : (0 : Nat) ∈ (kidX A B y).toList.map (·.born) := by rw [kidX_born]; exact List.mem_range.2 (by rw [HKL.out]; omega)
                obtain ⟨e, he, h⟩ := List.mem_map.1 this
                rw [← h]; exact hall e he
              rcases HST.out with ⟨rfl, -, -⟩ | ⟨rfl, rfl, ho⟩
              · simp at h0s
              · have HO2 := Lib.hid ho
                clear hall h0s ho
                simp only [Act.put, List.setIfInBounds_toArray, List.set_cons_succ, List.set_cons_zero]
                go_wp2
                refine ⟨⟨k0, ext ++ [ky], rfl, g1, HR0.out, HNX.out, HO2.out, HBI.out⟩, ?_⟩
                rw [own_len HO2.out, own_len HO.out]
                simp; omega
            · intro en w9 hen hns hIt9 hMp9 hlt9 hbel9 hgr9 hent
              obtain ⟨q, x', hq, rfl⟩ := kidX_mem.1 hen
              rw [HK0.out] at hq
              obtain ⟨rfl, rfl⟩ : q = 0 ∧ k0 = x' := by
                rcases q with _ | q
                · exact ⟨rfl, by simpa using hq⟩
                · simp at hq
              dsimp only at hns hlt9 hIt9 hent
              rw [HKY.out] at hent
              rcases HST.out with ⟨rfl, rfl, ho⟩ | ⟨rfl, -, -⟩
              · have hv9 := ho.grownI hgr9 HIT.out
                have hb9 : Below w.heap.size w w9 := hbel9 _ _ hbs HBI.out
                have hsz9 := hb9.size
                have HLT := Lib.hid hlt9; have HIT9 := Lib.hid hIt9; have HB9 := Lib.hid hb9
                clear hen hns hlt9 hbel9 hgr9 hMp9 hIt9 hq ho hb9
                simp only [Act.put, List.setIfInBounds_toArray, List.set_cons_succ, List.set_cons_zero]
                go_wp2_with (at_builtin; go_loud (refine app1 rfl _ _ rfl w.heap.size _ ext ky ⟨w9.heap.size, 0, none⟩ rfl rfl (hv9.alloc _) (cell_new1 _ _ _) (by omega) (by rw [World.size_alloc]; exact Nat.le_succ_of_le hsz9) ?_; intro v4 w4 h4 hg4))
                have hI4 := (HIT9.out.alloc (.cells #[.int .i64 ky] 3)).row (hv9.alloc _) hg4
                refine ⟨⟨#[0], hI4, (HB9.out.alloc hsz9 _).grown hg4 (by rw [World.size_alloc]; omega) hv9.row, .inr ⟨rfl, rfl, h4⟩⟩, ?_⟩
                rw [IterB.seenIs hI4, HSEEN.out]
                exact HLT.out
              · simp at hns
        · have HE := Lib.hid (show MoreT A S p ext from ⟨HL.out, y, hy, HR.out, .inr (by rw [HKL.out]; exact h1)⟩)
          have hne : ((kl : Int) == 1) = false := by simpa using (by omega : ¬ (kl : Int) = 1)
          have hne2 : ¬ (kl : Int) = 1 := by omega
          clear hsz hkl hraw
          clear hHr hMB
          go_wp2
          go_ret2
          exact ⟨_, ext, rfl, HE.out, HO.out, HB.out⟩

end Go.Proofs.Ytmipnikhgihcpaa
