/- Region 16 of TrieSays, by itself. -/
import Derived.Test.YtmipnikhgihcpaaTrieC
import Derived.Test.YtmipnikhgihcpaaSameLs
import Derived.Deep.CutBlock
import Derived.StillTailTactics
namespace Go.Proofs.Ytmipnikhgihcpaa
open Go.RowKit
set_option linter.unusedVariables false
set_option linter.unusedSimpArgs false

def regionOf (n : Nat) : Code → Option Code
  | .region k o d => if k == n then some (.region k o d) else none
  | .seq a b => match regionOf n a with
    | some c => some c
    | none => regionOf n b
  | .loop c => regionOf n c
  | .block _ c => regionOf n c
  | .scope c => regionOf n c
  | .cond _ a b => match regionOf n a with
    | some c => some c
    | none => regionOf n b
  | _ => none
noncomputable def T16 : Code := ((Try.f11.body.bind (regionOf 16)).getD .skip)
theorem keep1 {W w1 w2 : World} {a0 : Addr} {u0 : Value} (h : w1.cell? a0 = some u0 ∧ Below W.heap.size W w1) (hb : Below w1.heap.size w1 w2) : w2.cell? a0 = some u0 ∧ Below W.heap.size W w2 := ⟨below_keeps hb _ _ h.1, h.2.trans (hb.mono h.2.size)⟩
theorem vcut_to (a : Option Addr) (n c hi : Nat) (h2 : hi ≤ c) (w : World) :
    (Instr.slice 46 (.slice a n c) none (some (.int .i64 (hi : Int))) none).run Try.prog w = .ok (.slice a hi c) w := by
  obtain ⟨i0, hi0, hz0, hz1, hz2⟩ := info_parts info_sl
  have b2 : (0 : Int) ≤ (hi : Int) ∧ (hi : Int) ≤ (c : Int) := by omega
  simp [Instr.slice, Instr.sliceBounds, Instr.sliceBound, asIntOf, run_underlying Try.underlying46, sizeOf, typeInfo, hi0, hz1, b2, go_sem, h2]

set_option maxRecDepth 100000 in
set_option maxHeartbeats 8000000 in
theorem trie_r16 (bs bx bn bc m c K : Nat) (ba a : Option Addr) (most : Int) (t : Bool) (A S : List (List Int)) (B : Nat → Nat) (M : Nat → Option Nat) (p : List Int) (us0 : List Value) (V : World) {Q : Exit → Act → World → Prop}
    {u0 u1 u3 u5 u6 u8 u9 u10 u13 u14 u15 u16 u17 u18 u19 u20 u21 u22 u23 u24 u25 u26 u27 u28 u29 u30 u31 u32 u33 u34 u35 u36 u37 u38 u39 u40 u41 u42 u43 u44 u45 u46 u47 u48 u49 u50 u51 u52 u53 u54 u55 u56 u57 u58 u59 u60 u61 u62 u63 u64 u65 u66 u67 u68 u69 u70 u71 u72 u73 u74 u75 u76 u77 u78 u79 u80 u81 u82 u83 u84 u85 u86 u87 u88 u89 u90 u91 u92 u93 u94 u95 u96 u97 u98 : Value}
    (hI : TInv A S) (hH : TrH V bs A B M (inS S) (cnt S)) (hS : S.Nodup) (hS2 : S.length ≤ 1000) (hA : A.length ≤ 100000) (ha : Ints V a p) (hm : p.length = m) (hmc : m ≤ c) (hc : c ≤ 9223372036854775807) (h0 : a = none → m = 0) (hmo1 : -9223372036854775808 ≤ most) (hmo2 : most ≤ 9223372036854775807)
    (hbx : V.cell? ⟨bx, 0, none⟩ = some (.slice a m c)) (hVs : Vs V (.slice ba bn bc) us0) (hLs : Lists V us0 (begS S p)) (ht : inS S p = t) (hK1 : K = min most.toNat bn) (hK2 : K ≤ bn)
    (hQ : ∀ (x72 x73 x74 x75 x76 x77 x78 x79 x80 x81 x82 x83 x84 x85 x86 x87 x88 x89 x90 x91 x92 x93 x94 x95 x96 x97 x98 : Value) (w' : World), Below V.heap.size V w' → Q .normal ⟨(u0 :: u1 :: .int .i64 most :: u3 :: .pointer (some ⟨bx, 0, none⟩) :: u5 :: .bool true :: .pointer (some ⟨B 0, 0, none⟩) :: u8 :: u9 :: u10 :: .slice ba bn bc :: .bool t :: u13 :: u14 :: u15 :: u16 :: u17 :: u18 :: u19 :: u20 :: u21 :: u22 :: u23 :: u24 :: u25 :: u26 :: u27 :: u28 :: u29 :: u30 :: u31 :: u32 :: u33 :: u34 :: u35 :: u36 :: u37 :: u38 :: u39 :: u40 :: u41 :: u42 :: u43 :: u44 :: u45 :: u46 :: u47 :: u48 :: u49 :: u50 :: u51 :: u52 :: u53 :: u54 :: u55 :: u56 :: u57 :: u58 :: u59 :: u60 :: u61 :: u62 :: u63 :: u64 :: u65 :: u66 :: u67 :: u68 :: u69 :: u70 :: u71 :: x72 :: x73 :: x74 :: x75 :: x76 :: x77 :: x78 :: x79 :: x80 :: x81 :: x82 :: x83 :: x84 :: x85 :: x86 :: x87 :: x88 :: x89 :: x90 :: x91 :: x92 :: x93 :: x94 :: x95 :: x96 :: x97 :: x98 :: []).toArray, []⟩ w') :
    Code.wp Try.prog T16 Q ⟨(u0 :: u1 :: .int .i64 most :: u3 :: .pointer (some ⟨bx, 0, none⟩) :: u5 :: u6 :: .pointer (some ⟨B 0, 0, none⟩) :: u8 :: u9 :: u10 :: .slice ba bn bc :: .bool t :: u13 :: u14 :: u15 :: u16 :: u17 :: u18 :: u19 :: u20 :: u21 :: u22 :: u23 :: u24 :: u25 :: u26 :: u27 :: u28 :: u29 :: u30 :: u31 :: u32 :: u33 :: u34 :: u35 :: u36 :: u37 :: u38 :: u39 :: u40 :: u41 :: u42 :: u43 :: u44 :: u45 :: u46 :: u47 :: u48 :: u49 :: u50 :: u51 :: u52 :: u53 :: u54 :: u55 :: u56 :: u57 :: u58 :: u59 :: u60 :: u61 :: u62 :: u63 :: u64 :: u65 :: u66 :: u67 :: u68 :: u69 :: u70 :: u71 :: u72 :: u73 :: u74 :: u75 :: u76 :: u77 :: u78 :: u79 :: u80 :: u81 :: u82 :: u83 :: u84 :: u85 :: u86 :: u87 :: u88 :: u89 :: u90 :: u91 :: u92 :: u93 :: u94 :: u95 :: u96 :: u97 :: u98 :: []).toArray, []⟩ V := by
  have hbl : (begS S p).length = cnt S p := begS_len S p
  obtain ⟨b1, b2, b3, b4, b5⟩ := hVs.get
  have hbn : bn = cnt S p := by rw [← hbl, ← hLs.len]; exact b1.symm
  have hKn : K ≤ bn := by omega
  have hcr := vcut_to ba bn bc K (by omega)
  have hmm : max (0 : Int) (min most (bn : Int)) = (K : Int) := by omega
  have htk : (begS S p).take most.toNat = (begS S p).take K := by
    by_cases h : most.toNat ≤ bn
    · congr 1; omega
    · rw [List.take_of_length_le (by rw [hbl]; omega), List.take_of_length_le (by rw [hbl]; omega)]
  have HTK := Lib.hid htk
  have hlk : (us0.take K).length = K := by rw [List.length_take]; omega
  have HLK := Lib.hid hlk
  have hlx : ((begS S p).take K).length = K := by rw [List.length_take]; omega
  have HLX := Lib.hid hlx
  have HVA := Lib.hid b4; have HLs := Lib.hid hLs
  have hbc : K ≤ 1000000 := by have := cnt_le S p; omega
  obtain ⟨n, hn⟩ : ∃ n, cnt S p = n := ⟨_, rfl⟩
  have HC := Lib.hid (fun w' (hb : Below V.heap.size V w') => trie_count bs A S B M hI a m c p w' (hH.kept hb) (ha.below hb) hm hmc hc)
  rw [hn] at HC
  have hnn : n = bn := by omega
  subst hnn
  have HHS := Lib.hid (fun w' (hb : Below V.heap.size V w') => trie_has bs A S B M hI a m c p w' (hH.kept hb) (ha.below hb) hm hmc hc)
  rw [ht] at HHS
  have HLI := Lib.hid (fun w' (hb : Below V.heap.size V w') => trie_list bs A S B M w' (hH.kept hb) hI hS hS2 hA p a m c (ha.below hb) hm hmc hc h0 most hmo1 hmo2)
  rw [htk] at HLI
  have HQ := Lib.hid hQ
  clear hVs hLs b1 b4 b5 hbl hbn htk hlk hlx hn hI hH hS hS2 hA ha hm h0 ht hK1 hK2 hQ
  conv => arg 2; whnf
  go_region_held3 (fun w' => w'.cell? ⟨bx, 0, none⟩ = some (.slice a m c) ∧ Below V.heap.size V w') (first | exact ⟨hbx, (Below.refl _ _).drew⟩ | assumption | exact keep1 ‹_› ‹_›)
    (first | (go_at_call 79; ((with_reducible refine (HHS.out _ (And.right ‹_›)).mono ?_); rintro e w4 ⟨rfl, rfl⟩)) | (go_at_call 80; ((with_reducible refine (HC.out _ (And.right ‹_›)).mono ?_); rintro e w4 ⟨rfl, rfl⟩)) | (go_at_call 82; ((with_reducible refine (HLI.out _ (And.right ‹_›)).mono ?_); rintro e w5 ⟨v5, us5, rfl, hv5, hl5, hb5⟩; obtain ⟨a5, n5, c5, rfl⟩ : ∃ a n c, v5 = .slice a n c := (by obtain ⟨x1, x2, x3, x4, -⟩ := hv5; exact ⟨x1, x2, x3, x4⟩); obtain rfl : n5 = K := (by rw [← HLX.out, ← hl5.len]; exact hv5.get.1.symm))) | (go_at_call 81; ((with_reducible refine (same_lists a5 ba n5 n5 c5 bc us5 (us0.take n5) ((begS S p).take n5) w5 hv5.get.2.2.2.1 ((HVA.out.below (And.right (a := w5.cell? ⟨bx, 0, none⟩ = some (.slice a m c)) ‹_›)).take n5) hv5.get.1 HLK.out hl5 ((HLs.out.below (And.right (a := w5.cell? ⟨bx, 0, none⟩ = some (.slice a m c)) ‹_›)).take n5) (by omega)).mono ?_); rintro e w6 ⟨rfl, q6, rfl⟩; have hb6 : Below w5.heap.size w5 (w5.drewN q6) := below_drewN (Below.refl _ _) q6)))
  all_goals exact HQ.out _ _ _ _ _ _ _ _ _ _ _ _ _ _ _ _ _ _ _ _ _ _ _ _ _ _ _ _ (And.right ‹_›)

end Go.Proofs.Ytmipnikhgihcpaa
