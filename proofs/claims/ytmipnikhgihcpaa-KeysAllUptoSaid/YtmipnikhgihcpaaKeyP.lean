/- What keys.Take answers: plain; contracts of total, command, counted. -/
import Derived.Test.YtmipnikhgihcpaaKey3
import Derived.Deep.RegionLaw
namespace Go.Proofs.Ytmipnikhgihcpaa
open Go.RowKit
set_option linter.unusedVariables false
set_option linter.unusedSimpArgs false

/-- the kind of a key: 0 none, 1 digit, 2 quote, 3 oper, 4 find, 5 motion, 6 plain, 7 char, 8 inner -/
def kdV (f r o s key : Int) : Int :=
  if dgB (if o ≠ 0 then s else f) key = true then 1 else if opB key = true then 3 else if moB key = true then 5 else if fiB key = true then 4
  else if iaB key = true then (if o ≠ 0 then 8 else 6) else if o ≠ 0 then 0
  else if key = 34 then (if r ≠ 0 then 0 else 2) else if key = 114 then 7 else if plB key = true then 6 else 0
def totV (f s : Int) : Int := if f = 0 then s else if s = 0 then f else min 999 (f * s)
def cntV (n key : Int) : Int := min 999 (10 * n + key - 48)

/-- the part, the command and how it goes on -/
structure TK where
  q0 : Int
  q1 : Int
  q2 : Int
  q3 : Int
  q4 : Int
  c0 : Int
  c1 : Int
  c2 : Int
  c3 : Int
  c4 : Int
  how : Int
deriving DecidableEq
def TK.wrong : TK := ⟨0, 0, 0, 0, 0, 0, 0, 0, 0, 0, 3⟩
def TK.done (f r o s verb arg : Int) : TK := ⟨0, 0, 0, 0, 0, totV f s, r, o, verb, arg, 2⟩
def TK.more (f r o s wt : Int) : TK := ⟨f, r, o, s, wt, 0, 0, 0, 0, 0, 1⟩
def awaV (f r o s wt key : Int) : TK :=
  if wt = 34 then (if letB key = true then TK.more f key o s 0 else TK.wrong)
  else if iaB wt = true then (if obB key = true then TK.done f r o s wt key else TK.wrong)
  else TK.done f r o s wt key
def takV (f r o s wt key : Int) : TK :=
  if key < 32 ∨ key = 127 then TK.wrong
  else if wt ≠ 0 then awaV f r o s wt key
  else if kdV f r o s key = 1 then (if o ≠ 0 then TK.more f r o (cntV s key) 0 else TK.more (cntV f key) r o s 0)
  else if kdV f r o s key = 2 ∨ kdV f r o s key = 4 ∨ kdV f r o s key = 7 ∨ kdV f r o s key = 8 then TK.more f r o s key
  else if kdV f r o s key = 3 then (if o = 0 then TK.more f r key s 0 else if o ≠ key then TK.wrong else TK.done f r o s key 0)
  else if kdV f r o s key = 5 ∨ kdV f r o s key = 6 then TK.done f r o s key 0
  else TK.wrong

def TK.q (t : TK) : Value := .agg #[.int .i64 t.q0, .int .i64 t.q1, .int .i64 t.q2, .int .i64 t.q3, .int .i64 t.q4]
def TK.c (t : TK) : Value := .agg #[.int .i64 t.c0, .int .i64 t.c1, .int .i64 t.c2, .int .i64 t.c3, .int .i64 t.c4]
def TakPost (t : TK) (er : Int) (w : World) (e : Ending) (w' : World) : Prop := e = .returned (.tuple #[t.q, t.c, .int .i64 t.how, .int .i64 er]) ∧ Below w.heap.size w w'

theorem part_ok {f r o s wt : Int} (h : partE f r o s wt = 0) : 0 ≤ f ∧ f ≤ 999 ∧ 0 ≤ s ∧ s ≤ 999 ∧ (o = 0 ∨ o = 100 ∨ o = 99 ∨ o = 121) := by
  unfold partE at h
  split at h
  · rename_i h'
    simp [cntB, namB, opB] at h'
    omega
  · simp at h
theorem mul_bd {f s : Int} (h1 : 0 ≤ f) (h2 : f ≤ 999) (h3 : 0 ≤ s) (h4 : s ≤ 999) : 0 ≤ f * s ∧ f * s ≤ 998001 := by
  constructor
  · exact Int.mul_nonneg h1 h3
  · have : f * s ≤ 999 * 999 := Int.mul_le_mul h2 h4 h3 (by omega)
    omega

set_option maxRecDepth 100000 in
theorem keys_total (f r o s wt : Int) (w : World) (h1 : 0 ≤ f) (h2 : f ≤ 999) (h3 : 0 ≤ s) (h4 : s ≤ 999) :
    Calls Try.prog 206 #[.agg #[.int .i64 f, .int .i64 r, .int .i64 o, .int .i64 s, .int .i64 wt]] w fun e w' => e = .returned (.int .i64 (totV f s)) ∧ Below w.heap.size w w' := by
  have hA := Blk.new w #[.int .i64 f, .int .i64 r, .int .i64 o, .int .i64 s, .int .i64 wt] 83
  have hacc := below1 w (.cells #[.int .i64 f, .int .i64 r, .int .i64 o, .int .i64 s, .int .i64 wt] 83)
  obtain ⟨m1, m2⟩ := mul_bd h1 h2 h3 h4
  obtain ⟨c0, c1, c2, c3, c4⟩ := hA.five
  by_cases hf : f = 0
  · have HF := Lib.hid (show totV f s = s by simp [totV, hf])
    have g1 : (f == 0) = true := by simpa using hf
    clear hf
    go_enter Try.func206, Try.ntmps206
    go_wp2
    go_ret
    exact ⟨ret1_int HF.out.symm, hacc⟩
  · have g1 : (f == 0) = false := by simpa using hf
    by_cases hs : s = 0
    · have HF := Lib.hid (show totV f s = f by simp [totV, hf, hs])
      have g2 : (s == 0) = true := by simpa using hs
      clear hf hs
      go_enter Try.func206, Try.ntmps206
      go_wp2
      go_ret
      exact ⟨ret1_int HF.out.symm, hacc⟩
    · have HF := Lib.hid (show totV f s = min 999 (f * s) by simp [totV, hf, hs])
      have g2 : (s == 0) = false := by simpa using hs
      clear hf hs
      go_enter Try.func206, Try.ntmps206
      go_wp2
      all_goals
        go_ret
        refine ⟨ret1_int ?_, hacc⟩
        rw [HF.out]
        omega

theorem keys_counted (n key : Int) (w : World) (h1 : 0 ≤ n) (h2 : n ≤ 999) (h3 : 48 ≤ key) (h4 : key ≤ 57) :
    Calls Try.prog 164 #[.int .i64 n, .int .i64 key] w fun e w' => e = .returned (.int .i64 (cntV n key)) ∧ w = w' := by
  go_enter Try.func164, Try.ntmps164
  go_wp2
  all_goals
    go_ret
    refine ⟨ret1_int ?_, rfl⟩
    unfold cntV
    omega

def CmdPost (a b c d g : Int) (w : World) (e : Ending) (w' : World) : Prop := e = .returned (.agg #[.int .i64 a, .int .i64 b, .int .i64 c, .int .i64 d, .int .i64 g]) ∧ Below w.heap.size w w'

theorem Blk.set5 {w : World} {B : Nat} {u0 u1 u2 u3 u4 : Value} {e : TypeId} (h : Blk w B #[u0, u1, u2, u3, u4] e) (x0 x1 x2 x3 x4 : Value) :
    Blk (((((w.setCell ⟨B, 0, none⟩ x0).setCell ⟨B, 1, none⟩ x1).setCell ⟨B, 2, none⟩ x2).setCell ⟨B, 3, none⟩ x3).setCell ⟨B, 4, none⟩ x4) B #[x0, x1, x2, x3, x4] e :=
  ((((h.set 0 x0).set 1 x1).set 2 x2).set 3 x3).set 4 x4
theorem below_set5 {N B : Nat} {a w : World} (h : Below N a w) (hB : N ≤ B) {x0 x1 x2 x3 x4 : Value} :
    Below N a (((((w.setCell ⟨B, 0, none⟩ x0).setCell ⟨B, 1, none⟩ x1).setCell ⟨B, 2, none⟩ x2).setCell ⟨B, 3, none⟩ x3).setCell ⟨B, 4, none⟩ x4) :=
  ((((h.setCell (p := ⟨B, 0, none⟩) hB _).setCell (p := ⟨B, 1, none⟩) hB _).setCell (p := ⟨B, 2, none⟩) hB _).setCell (p := ⟨B, 3, none⟩) hB _).setCell (p := ⟨B, 4, none⟩) hB _
theorem below_undrew {w w' : World} (h : Below w.drew.heap.size w.drew w') : Below w.heap.size w w' := ⟨h.os, h.tape, h.output, h.size, h.block⟩
theorem keepC5 {w2 w' w'' : World} {B : Nat} {u0 u1 u2 u3 u4 : Value} (h : w'.cell? ⟨B, 0, none⟩ = some u0 ∧ w'.cell? ⟨B, 1, none⟩ = some u1 ∧ w'.cell? ⟨B, 2, none⟩ = some u2 ∧ w'.cell? ⟨B, 3, none⟩ = some u3 ∧ w'.cell? ⟨B, 4, none⟩ = some u4 ∧ Below w2.heap.size w2 w') (hb : Below w'.heap.size w' w'') :
    w''.cell? ⟨B, 0, none⟩ = some u0 ∧ w''.cell? ⟨B, 1, none⟩ = some u1 ∧ w''.cell? ⟨B, 2, none⟩ = some u2 ∧ w''.cell? ⟨B, 3, none⟩ = some u3 ∧ w''.cell? ⟨B, 4, none⟩ = some u4 ∧ Below w2.heap.size w2 w'' :=
  ⟨below_keeps hb _ _ h.1, below_keeps hb _ _ h.2.1, below_keeps hb _ _ h.2.2.1, below_keeps hb _ _ h.2.2.2.1, below_keeps hb _ _ h.2.2.2.2.1, below_then h.2.2.2.2.2 h.2.2.2.2.2.size hb⟩

set_option maxRecDepth 100000 in
set_option maxHeartbeats 1000000 in
theorem keys_command (f r o s wt verb arg : Int) (w : World) (h1 : 0 ≤ f) (h2 : f ≤ 999) (h3 : 0 ≤ s) (h4 : s ≤ 999) :
    Calls Try.prog 165 #[.agg #[.int .i64 f, .int .i64 r, .int .i64 o, .int .i64 s, .int .i64 wt], .int .i64 verb, .int .i64 arg] w (CmdPost (totV f s) r o verb arg w) := by
  have hA := (Blk.new w #[.int .i64 f, .int .i64 r, .int .i64 o, .int .i64 s, .int .i64 wt] 83).alloc (.cells #[.int .i64 0, .int .i64 0, .int .i64 0, .int .i64 0, .int .i64 0] 80)
  have hB := Blk.new (w.alloc (.cells #[.int .i64 f, .int .i64 r, .int .i64 o, .int .i64 s, .int .i64 wt] 83)) #[.int .i64 0, .int .i64 0, .int .i64 0, .int .i64 0, .int .i64 0] 80
  rw [World.size_alloc] at hB
  have hacc := below2 w (.cells #[.int .i64 f, .int .i64 r, .int .i64 o, .int .i64 s, .int .i64 wt] 83) (.cells #[.int .i64 0, .int .i64 0, .int .i64 0, .int .i64 0, .int .i64 0] 80)
  go_enter Try.func165, Try.ntmps165
  go_upto_region 1 with fail
  generalize (w.alloc (.cells #[.int .i64 f, .int .i64 r, .int .i64 o, .int .i64 s, .int .i64 wt] 83)).alloc (.cells #[.int .i64 0, .int .i64 0, .int .i64 0, .int .i64 0, .int .i64 0] 80) = w1 at *
  obtain ⟨c0, c1, c2, c3, c4⟩ := hA.five
  obtain ⟨d0, d1, d2, d3, d4⟩ := hB.five
  obtain ⟨e0, e1, e2, e3, e4⟩ := hB.fiveF
  go_region_law ((go_simp; go_at_call 206; refine (keys_total _ _ _ _ _ _ h1 h2 h3 h4).mono ?_; rintro e w9 ⟨rfl, hb⟩; have hA9 := hA.drew.below hb hA.lt; have hB9 := hB.drew.below hb hB.lt; obtain ⟨k0, k1, k2, k3, k4⟩ := hA9.five; obtain ⟨l0, l1, l2, l3, l4⟩ := hB9.five; obtain ⟨m0, m1, m2, m3, m4⟩ := hB9.fiveF))
  all_goals
    have hacc9 := below_then hacc hacc.size (below_undrew hb)
    obtain ⟨y0, y1, y2, y3, y4⟩ := (hB9.set5 (.int .i64 (totV f s)) (.int .i64 r) (.int .i64 o) (.int .i64 verb) (.int .i64 arg)).five
    go_simp
    go_wp2
    exact bodyPost_ret (v := .agg #[.int .i64 (totV f s), .int .i64 r, .int .i64 o, .int .i64 verb, .int .i64 arg]) (by simp [results, Try.results165, go_sem, y0, y1, y2, y3, y4]) rfl ⟨rfl, below_set5 hacc9 (by omega)⟩

end Go.Proofs.Ytmipnikhgihcpaa
