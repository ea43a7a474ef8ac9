/- The builder of splice.Over in memory; contracts of its methods. -/
import Derived.Test.YtbgbcmfgncneiaaOverP
import Derived.Test.YtbgbcmfgncneiaaSRow
import Derived.Deep.DeepCutAuto
import Derived.Deep.CutBlock
import Derived.Maps.AppendAt
namespace Go.Proofs.Ytbgbcmfgncneiaa
open Go.RowKit
set_option linter.unusedVariables false
set_option linter.unusedSimpArgs false

/-- a builder: what it has put out, the place, is one open, the open one -/
structure BSt where
  out : List Sp
  pl : Int
  op : Bool
  now : Sp
def BSt.toF (b : BSt) : FS := ⟨if b.op = true then b.out ++ [b.now] else b.out, b.pl, b.op⟩
def BSt.cells (b : BSt) (ov : Value) (na : Option Addr) (nn nc : Nat) : Array Value := #[ov, .int .i64 b.pl, .bool b.op, .int .i64 b.now.f, .int .i64 b.now.t, .slice na nn nc]
def Apart (us : List SV) (v : Value) : Prop := ∀ k, v.ownBlock = some k → ∀ u ∈ us, (Value.slice u.a u.n u.c).ownBlock ≠ some k
/-- it lies in block B -/
def BAt (base : Nat) (w : World) (B : Nat) (b : BSt) : Prop := ∃ ov us na nn nc, Blk w B (b.cells ov na nn nc) 148 ∧ SOwn base w ov us b.out ∧ Own 3 base w (.slice na nn nc) b.now.x ∧
  (b.op = true → Apart us (.slice na nn nc)) ∧ base ≤ B ∧ base ≤ w.heap.size
/-- blocks of other types are as they were -/
def Keeps (w w' : World) : Prop := ∀ R cs e, e ≠ 3 → e ≠ 127 → e ≠ 148 → Blk w R cs e → Blk w' R cs e
theorem Keeps.refl (w : World) : Keeps w w := fun _ _ _ _ _ _ h => h
theorem Keeps.trans {a b c : World} (h : Keeps a b) (h' : Keeps b c) : Keeps a c := fun R cs e h1 h2 h3 hb => h' R cs e h1 h2 h3 (h R cs e h1 h2 h3 hb)
theorem Keeps.drew {a b : World} (h : Keeps a b) : Keeps a b.drew := fun R cs e h1 h2 h3 hb => (h R cs e h1 h2 h3 hb).drew
theorem Keeps.alloc {a b : World} (h : Keeps a b) (o : Obj) : Keeps a (b.alloc o) := fun R cs e h1 h2 h3 hb => (h R cs e h1 h2 h3 hb).alloc o
theorem Blk.ne' {w : World} {B R : Nat} {cs ds : Array Value} {e e' : TypeId} (h : Blk w B cs e) (h' : Blk w R ds e') (he : e' ≠ e) : R ≠ B := by
  rintro rfl
  unfold Blk at h h'
  rw [h] at h'
  simp at h'
  exact he h'.2.symm
theorem Keeps.set {a b : World} {B : Nat} {ds : Array Value} (h : Keeps a b) (hB : Blk b B ds 148) (i : Nat) (v : Value) : Keeps a (b.setCell ⟨B, i, none⟩ v) := fun R cs e h1 h2 h3 hb => by
  have hr := h R cs e h1 h2 h3 hb
  exact hr.other (a := ⟨B, i, none⟩) (Blk.ne' hB hr h3) v
theorem Keeps.grownI {a b c : World} {base : Nat} {v : Value} {xs : List Int} (h : Keeps a b) (ho : Own 3 base b v xs) (hg : b.grownBy c v.ownBlock) : Keeps a c := fun R cs e h1 h2 h3 hb => by
  have hr := h R cs e h1 h2 h3 hb
  exact hr.grown hg (ho.neBlk hr (Ne.symm h1))
theorem Keeps.grownS {a b c : World} {base : Nat} {v : Value} {us : List SV} {es : List Sp} (h : Keeps a b) (ho : SOwn base b v us es) (hg : b.grownBy c v.ownBlock) : Keeps a c := fun R cs e h1 h2 h3 hb => by
  have hr := h R cs e h1 h2 h3 hb
  exact hr.grown hg (ho.neBlk hr (Ne.symm h2))

/-- a row of splices and its texts, under a store into a block of another kind -/
theorem SOwn.setOther {base : Nat} {w : World} {v : Value} {us : List SV} {es : List Sp} {B : Nat} {cs : Array Value} {e : TypeId} (h : SOwn base w v us es) (hB : Blk w B cs e) (h1 : 127 ≠ e) (h2 : 3 ≠ e) (i : Nat) (x : Value) : SOwn base (w.setCell ⟨B, i, none⟩ x) v us es := by
  refine ⟨⟨h.1.1, ?_⟩, forall2_imp h.2 fun _ _ hh => hh.imp fun k => k.other (a := ⟨B, i, none⟩) (k.neBlk hB h2) x⟩
  have hne := h.neBlk hB h1
  rcases h.1.2 with hn | ⟨g, cap, cur, rfl, hb', hgg, rest⟩
  · exact .inl hn
  · exact .inr ⟨g, cap, cur, rfl, hb', by rw [Below.heap_setCell _ _ _ _ (by intro hc; exact hne (by simp [Value.ownBlock, hc]))]; exact hgg, rest⟩

def BPost (base B : Nat) (b : BSt) (w : World) (e : Ending) (w' : World) : Prop := e = .returned (.tuple #[]) ∧ BAt base w' B b ∧ Below base w w' ∧ Keeps w w'
def beginB (b : BSt) : BSt := if b.op = true then b else ⟨b.out, b.pl, true, ⟨b.pl, b.pl, []⟩⟩

theorem Blk.six {w : World} {B : Nat} {u0 u1 u2 u3 u4 u5 : Value} {e : TypeId} (h : Blk w B #[u0, u1, u2, u3, u4, u5] e) :
    w.cell? ⟨B, 0, none⟩ = some u0 ∧ w.cell? ⟨B, 1, none⟩ = some u1 ∧ w.cell? ⟨B, 2, none⟩ = some u2 ∧ w.cell? ⟨B, 3, none⟩ = some u3 ∧ w.cell? ⟨B, 4, none⟩ = some u4 ∧ w.cell? ⟨B, 5, none⟩ = some u5 := ⟨h.cell 0, h.cell 1, h.cell 2, h.cell 3, h.cell 4, h.cell 5⟩
theorem Blk.sixF {w : World} {B : Nat} {u0 u1 u2 u3 u4 u5 : Value} {e : TypeId} (h : Blk w B #[u0, u1, u2, u3, u4, u5] e) :
    w.frozen? ⟨B, 0, none⟩ = false ∧ w.frozen? ⟨B, 1, none⟩ = false ∧ w.frozen? ⟨B, 2, none⟩ = false ∧ w.frozen? ⟨B, 3, none⟩ = false ∧ w.frozen? ⟨B, 4, none⟩ = false ∧ w.frozen? ⟨B, 5, none⟩ = false := ⟨h.free 0, h.free 1, h.free 2, h.free 3, h.free 4, h.free 5⟩

/-- a builder's block while it is written -/
structure BW (base B : Nat) (w0 w : World) (cs : Array Value) (ov : Value) (us : List SV) (out : List Sp) (tv : Value) (x : List Int) : Prop where
  blk : Blk w B cs 148
  s : SOwn base w ov us out
  o : Own 3 base w tv x
  k : Keeps w0 w
  bel : Below base w0 w
theorem BW.set {base B : Nat} {w0 w : World} {cs : Array Value} {ov : Value} {us : List SV} {out : List Sp} {tv : Value} {x : List Int} (h : BW base B w0 w cs ov us out tv x) (hB : base ≤ B) (i : Nat) (v : Value) : BW base B w0 (w.setCell ⟨B, i, none⟩ v) (cs.setIfInBounds i v) ov us out tv x :=
  ⟨h.blk.set i v, h.s.setOther h.blk (by decide) (by decide) i v, h.o.other (a := ⟨B, i, none⟩) (h.o.neBlk h.blk (by decide)) v, h.k.set h.blk i v, h.bel.setCell (p := ⟨B, i, none⟩) hB v⟩
theorem BW.drew {base B : Nat} {w0 w : World} {cs : Array Value} {ov : Value} {us : List SV} {out : List Sp} {tv : Value} {x : List Int} (h : BW base B w0 w cs ov us out tv x) : BW base B w0 w.drew cs ov us out tv x :=
  ⟨h.blk, h.s, h.o, h.k.drew, h.bel.drew⟩
theorem BW.alloc {base B : Nat} {w0 w : World} {cs : Array Value} {ov : Value} {us : List SV} {out : List Sp} {tv : Value} {x : List Int} (h : BW base B w0 w cs ov us out tv x) (hz : base ≤ w.heap.size) (o : Obj) : BW base B w0 (w.alloc o) cs ov us out tv x :=
  ⟨h.blk.alloc o, h.s.alloc o, h.o.alloc o, h.k.alloc o, h.bel.alloc hz o⟩
theorem BW.start {base B : Nat} {w : World} {cs : Array Value} {ov : Value} {us : List SV} {out : List Sp} {tv : Value} {x : List Int} (hB : Blk w B cs 148) (hs : SOwn base w ov us out) (ho : Own 3 base w tv x) : BW base B w w cs ov us out tv x :=
  ⟨hB, hs, ho, Keeps.refl _, Below.refl _ _⟩
theorem BW.end {base B : Nat} {w0 w : World} {cs : Array Value} {ov : Value} {us : List SV} {b : BSt} {na : Option Addr} {nn nc : Nat} (h : BW base B w0 w cs ov us b.out (.slice na nn nc) b.now.x) (hc : cs = b.cells ov na nn nc) (ha : b.op = true → Apart us (.slice na nn nc)) (hB : base ≤ B) (hz : base ≤ w0.heap.size) : BPost base B b w0 (.returned (.tuple #[])) w := by
  subst hc
  exact ⟨rfl, ⟨ov, us, na, nn, nc, h.blk, h.s, h.o, ha, hB, Nat.le_trans hz h.bel.size⟩, h.bel, h.k⟩
theorem BW.nil {base B : Nat} {w0 w : World} {cs : Array Value} {ov : Value} {us : List SV} {out : List Sp} {tv : Value} {x : List Int} (h : BW base B w0 w cs ov us out tv x) : BW base B w0 w cs ov us out (.slice none 0 0) [] :=
  ⟨h.blk, h.s, Own.nil _ _ _, h.k, h.bel⟩

set_option maxRecDepth 100000 in
set_option maxHeartbeats 1000000 in
theorem builder_begin (base B : Nat) (b : BSt) (w : World) (h : BAt base w B b) :
    Calls Try.prog 155 #[.pointer (some ⟨B, 0, none⟩)] w (BPost base B (beginB b) w) := by
  obtain ⟨ov, us, na, nn, nc, hB, hs, ho, ha, hbB, hbz⟩ := h
  obtain ⟨out, pl, op, now⟩ := b
  unfold BSt.cells at hB
  simp only at hB hs ho ha
  cases op with
  | true =>
    obtain ⟨c0, c1, c2, c3, c4, c5⟩ := hB.six
    have hfin : BAt base w B (beginB ⟨out, pl, true, now⟩) := ⟨ov, us, na, nn, nc, hB, hs, ho, ha, hbB, hbz⟩
    have HF := Lib.hid hfin
    clear hfin
    go_enter Try.func155, Try.ntmps155
    go_wp2
    go_end0
    exact ⟨rfl, HF.out, Below.refl _ _, Keeps.refl _⟩
  | false =>
    obtain ⟨c0, c1, c2, c3, c4, c5⟩ := hB.six
    obtain ⟨f0, f1, f2, f3, f4, f5⟩ := hB.sixF
    have hW := BW.start hB hs ho
    have HW := Lib.hid hW
    clear hs hB ha ho hW
    go_enter Try.func155, Try.ntmps155
    go_wp2
    go_region
    all_goals
      go_end0
      first
        | exact (((((HW.out.set hbB 2 _).set hbB 3 _).set hbB 4 _).set hbB 5 _).nil.drew).end (b := ⟨out, pl, true, ⟨pl, pl, []⟩⟩) rfl (fun _ k hk => by simp [Value.ownBlock] at hk) hbB hbz
        | exact (((((HW.out.set hbB 3 _).set hbB 4 _).set hbB 5 _).set hbB 2 _).nil.drew).end (b := ⟨out, pl, true, ⟨pl, pl, []⟩⟩) rfl (fun _ k hk => by simp [Value.ownBlock] at hk) hbB hbz

end Go.Proofs.Ytbgbcmfgncneiaa
