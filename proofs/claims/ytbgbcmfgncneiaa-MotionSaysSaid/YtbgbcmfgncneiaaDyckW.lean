/- Contract of dyck.Pairs. -/
import Derived.Test.YtbgbcmfgncneiaaDyckM
import Derived.Test.YtbgbcmfgncneiaaRow
namespace Go.Proofs.Ytbgbcmfgncneiaa
open Go.RowKit Go.Maps
set_option linter.unusedVariables false
set_option linter.unusedSimpArgs false

theorem dyck_pairs_bad (a : Option Addr) (n c : Nat) (w : World) (h2 : 4096 < n) (h3 : n ≤ 9223372036854775807) :
    Calls Try.prog 159 #[.slice a n c] w fun e w' => e = .returned (.tuple #[.slice none 0 0, .int .i64 2]) ∧ w = w' := by
  go_enter Try.func159, Try.ntmps159
  go_wp2
  go_ret2
  exact ⟨rfl, rfl⟩

def PairsPost (l : List Int) (n : Nat) (w : World) (e : Ending) (w' : World) : Prop :=
  ∃ g, e = .returned (.tuple #[.slice (some ⟨g, 0, none⟩) n n, .int .i64 0]) ∧ Ints w' (some ⟨g, 0, none⟩) (pRun l n n).out ∧ Below w.heap.size w w'

set_option maxRecDepth 100000 in
set_option maxHeartbeats 1000000 in
theorem dyck_pairs (a : Option Addr) (n c : Nat) (l : List Int) (w : World) (ha : Ints w a l) (hn : l.length = n) (h2 : n ≤ 4096) :
    Calls Try.prog 159 #[.slice a n c] w (PairsPost l n w) := by
  have HN := Lib.hid hn; clear hn
  have hmk := make_int n n (Nat.le_refl _) (by omega)
  have hmm := @run_makeMap Try.prog
  go_enter Try.func159, Try.ntmps159
  go_wp2
  clear hmk hmm
  go_loopw [20] (fun i wr => ∃ (k mm : Nat) (f : Int → Value), i = .int .i64 (k : Int) ∧ k ≤ n ∧ mm ≤ k ∧ (∀ o, ((pRun l n k).stk o).length ≤ k) ∧ PW w wr f (pRun l n k).out (pRun l n k).stk mm) (fun i _ => n - (intOf i).toNat)
  case atStart =>
    refine ⟨0, 0, fun _ => nilV, rfl, by omega, by omega, fun o => by simp [pRun], ?_, ?_, ?_, ?_, below2 _ _ _⟩
    · show Blk _ _ ((List.replicate n (0 : Int)).map (Value.int .i64)).toArray _
      rw [← madeRow n]; exact (Blk.new _ _ _).alloc _
    · have := MapV.made (w.alloc (.cells (madeCells #[.int .i64 0] n) 3))
      rwa [World.size_alloc] at this
    · exact fun o s h => Own.nil _ _ _
    · exact fun _ _ _ _ _ _ _ => .inl rfl
  case round =>
    obtain ⟨k, mm, f, rfl, hk, hmm, hlen, hPW⟩ := hrel
    have hbel := hPW.bel
    have hsz := hbel.size
    have hbw := hPW.row.lt
    have hml := hPW.map.lt
    by_cases hlt : k < n
    · obtain ⟨b1, o1, rfl, hc0⟩ := ha.at (k := k) (by rw [HN.out]; exact hlt)
      have ck : wr.cell? ⟨b1, o1 + k, none⟩ = some (.int .i64 (ix l k)) := by
        have := hc0 k (by rw [HN.out]; exact hlt)
        rw [hbel.cell (cell_lt this)]; exact this
      have hol := pRun_len l n k
      have co := rowCell hPW.row (i := k) (by rw [hol]; exact hlt)
      have cf := hPW.row.free k
      have HPW := hPW.set k (-1)
      clear hc0
      obtain ⟨S, hS⟩ : ∃ S, pRun l n k = S := ⟨_, rfl⟩
      obtain ⟨x, hx⟩ : ∃ x, ix l k = x := ⟨_, rfl⟩
      rw [hS] at hPW hlen co HPW
      rw [hx] at ck
      have HST : Hid (pRun l n (k + 1) = pStep x k S) := Lib.hid (by rw [← hS, ← hx]; rfl)
      have HOL : Hid (S.out.length = n) := Lib.hid (by rw [← hS]; exact hol)
      have HS := Lib.hid hS; have HX := Lib.hid hx
      clear hol hS hx
      by_cases ho : otherS x = 0
      · have g0 : (otherS x == 0) = true := by simpa using ho
        have HS2 := Lib.hid (show pRun l n (k + 1) = ⟨S.out.set k (-1), S.stk⟩ by rw [HST.out]; simp [pStep, ho])
        go_wp2_with fail
        refine (dyck_other x _).mono ?_
        rintro e w' ⟨rfl, rfl⟩
        rw [ho]
        go_wp2
        go_roundw
        case rel =>
          refine ⟨k + 1, mm, f, by go_num, by omega, by omega, ?_, ?_⟩
          · rw [HS2.out]; intro o; exact Nat.le_succ_of_le (hlen o)
          · rw [HS2.out]; exact HPW
        case measure => simp [intOf]; omega
      · have hr := otherS_range x
        have ho2 : (otherS x == 0) = false := by simpa using ho
        by_cases hs : shutS x = false
        · have hk0 : IsKind x (otherS x) := by
            rcases kindOf x with ⟨h1, _⟩ | ⟨h1, _⟩ | ⟨_, _, h1⟩
            · exact absurd h1 ho
            · exact h1
            · rw [hs] at h1; cases h1
          have HS2 := Lib.hid (show pRun l n (k + 1) = ⟨S.out.set k (-1), fun y => if y = x then S.stk x ++ [(k : Int)] else S.stk y⟩ by rw [HST.out]; simp [pStep, ho, hs])
          go_wp2_with fail
          refine (dyck_other x _).mono ?_
          rintro e w' ⟨rfl, rfl⟩
          rw [hs]
          generalize wr.setCell ⟨w.heap.size, k, none⟩ (.int .i64 (-1)) = w4 at *
          have hxr : InR x := by unfold IsKind at hk0; unfold InR; omega
          have hl1 := hlen x
          have hz4 := HPW.map.lt
          go_wp2_with (first | (at_lookup; refine look_mapv rfl _ _ rfl HPW.map hxr rfl rfl rfl ?_) | (at_builtin; refine app1At rfl _ _ rfl (w.heap.size + 2) (f x) _ _ _ rfl rfl ((HPW.own _ _ hk0).alloc _) (cell_new1 _ _ _) (by omega) (by rw [World.size_alloc]; omega) ?_; intro v3 w3 hown3 hgrow3 hat3) | (at_mapUpdate; refine upd_mapv rfl _ _ _ rfl ((HPW.alloc _).mapOf hk0 hgrow3) (by omega) hxr (val := v3) rfl rfl rfl ?_; intro w5 hm5 hg5))
          go_roundw
          case rel =>
            refine ⟨k + 1, mm + 1, fun y => if y = x then v3 else f y, by go_num, by omega, by omega, ?_, ?_⟩
            · rw [HS2.out]; intro o
              show (if o = x then S.stk x ++ [(k : Int)] else S.stk o).length ≤ k + 1
              split
              · simpa using hl1
              · exact Nat.le_succ_of_le (hlen o)
            · rw [HS2.out]; exact (HPW.alloc _).push hk0 hown3 hgrow3 hat3 hm5 hg5
          case measure => simp [intOf]; omega
        · have hs2 : shutS x = true := by simpa using hs
          have hk0 : IsKind (otherS x) x := by
            rcases kindOf x with ⟨h1, _⟩ | ⟨_, _, h1⟩ | ⟨h1, _⟩
            · exact absurd h1 ho
            · rw [hs2] at h1; cases h1
            · exact h1
          have hxr : InR (otherS x) := by unfold InR; omega
          by_cases he : S.stk (otherS x) = []
          · have HS2 := Lib.hid (show pRun l n (k + 1) = ⟨S.out.set k (-1), S.stk⟩ by rw [HST.out]; simp [pStep, ho, hs2, he])
            have hown := HPW.own _ _ hk0
            rw [he] at hown
            obtain ⟨a4, n4, c4, hv⟩ := hown.form
            rw [hv] at hown
            obtain rfl : n4 = 0 := by have := hown.get.1; simpa using this.symm
            have HV := Lib.hid hv
            clear he hv hown
            go_wp2_with fail
            refine (dyck_other x _).mono ?_
            rintro e w' ⟨rfl, rfl⟩
            rw [hs2]
            go_wp2_with (at_lookup; refine look_mapv rfl _ _ rfl HPW.map hxr HV.out rfl rfl ?_)
            go_roundw
            case rel =>
              refine ⟨k + 1, mm, f, by go_num, by omega, by omega, ?_, ?_⟩
              · rw [HS2.out]; intro o; exact Nat.le_succ_of_le (hlen o)
              · rw [HS2.out]; exact HPW
            case measure => simp [intOf]; omega
          · have hpos := List.length_pos_iff.2 he
            have hown := HPW.own _ _ hk0
            obtain ⟨g, kk, c4, hv, f1, f2, f3, f4, f5, f6, hI⟩ := hown.full hpos
            obtain ⟨m, rfl⟩ : ∃ m, kk = m + 1 := ⟨kk - 1, by omega⟩
            rw [hv] at hown
            have hl : (S.stk (otherS x)).length = m + 1 := by omega
            have hpop := hown.pop
            have hpl : (S.stk (otherS x)).dropLast.length = m := by simp [hl]
            have hl1 : (S.stk (otherS x)).length - 1 = m := by omega
            obtain ⟨b4, o4, hb4, hc4⟩ := hI.at (k := m) (by omega)
            simp only [Option.some.injEq, Addr.mk.injEq] at hb4
            obtain ⟨rfl, rfl, -⟩ := hb4
            have cm := hc4 m (by omega)
            rw [Nat.zero_add] at cm
            obtain ⟨-, p, hp, hmat⟩ := ((OutI.run l n k hk).stks (otherS x) x hk0).pop HX.out hk0.ne (by rw [HS.out]; exact hpos)
            have hplt := hmat.lt
            rw [HS.out, hl1] at hp
            rw [hp] at cm
            have HS2 := Lib.hid (show pRun l n (k + 1) = ⟨((S.out.set k (-1)).set k (p : Int)).set p (k : Int), fun y => if y = otherS x then (S.stk (otherS x)).dropLast else S.stk y⟩ by
              rw [HST.out]; simp only [pStep, ho, hs2, he, if_false, hl1, hp]; rfl)
            have i1 : ((m : Int) + 1 - 1).toNat = m := by omega
            have i2 : (m : Int) + 1 - 1 = m := by omega
            have i3 : ¬ (m : Int) + 1 = 0 := by omega
            have i4 : m ≤ c4 := by omega
            have HV := Lib.hid hv
            have HPL := Lib.hid hpl
            clear hv hl hl1 hpl hc4 he hown hI hmat
            go_wp2_with fail
            refine (dyck_other x _).mono ?_
            rintro e w' ⟨rfl, rfl⟩
            rw [hs2]
            generalize wr.setCell ⟨w.heap.size, k, none⟩ (.int .i64 (-1)) = w4 at *
            go_wp2_with (first | (at_lookup; refine look_mapv rfl _ _ rfl HPW.map hxr HV.out rfl rfl ?_) | (at_mapUpdate; refine upd_mapv rfl _ _ _ rfl HPW.map (by omega) hxr (val := .slice (some ⟨g, 0, none⟩) m c4) rfl rfl rfl ?_; intro w5 hm5 hg5; have hPW5 := HPW.pop hk0 hpop (by rw [HV.out]; rfl) hm5 hg5; have cf1 := hPW5.row.free k; have cf2 := hPW5.row.free p; have cc1 := rowCell hPW5.row (i := k) (by simp; rw [HOL.out]; omega); have cc2 := rowCell hPW5.row (i := p) (by simp; rw [HOL.out]; omega); have cc3 := HPW.bel; clear hm5 hg5))
            refine ⟨⟨k + 1, mm + 1, fun y => if y = otherS x then .slice (some ⟨g, 0, none⟩) m c4 else f y, by go_num, by omega, by omega, ?_, ?_⟩, by simp [intOf]; omega⟩
            · rw [HS2.out]; intro o
              show (if o = otherS x then (S.stk (otherS x)).dropLast else S.stk o).length ≤ k + 1
              split
              · rw [HPL.out]; have := hlen (otherS x); omega
              · exact Nat.le_succ_of_le (hlen o)
            · rw [HS2.out]
              exact (hPW5.set k p).set p k
    · have hkn : k = n := by omega
      subst hkn
      go_wp2
      go_ret2
      exact ⟨_, rfl, ints_row hPW.row, hbel⟩

end Go.Proofs.Ytbgbcmfgncneiaa
