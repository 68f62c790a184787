/- The law FnSnailsRace walked to its end, its callees' answers known. -/
import Derived.Test.YtbbglmoenjdloaaOFnSnailsRacex0
import Derived.Test.YtbbglmoenjdloaaDrawWS
import Derived.Deep.DeepCutAuto
import Derived.Deep.LoopGhost
import Derived.WalkKit
namespace Go.Proofs.Ytbbglmoenjdloaa.OFnSnailsRace
open Go.RowKit Go.Proofs.YtbbglmoenjdloaaW.PrintWords Go.Proofs.YtbbglmoenjdloaaW.PrintLast Go.Proofs.YtbbglmoenjdloaaW.PrintMore
set_option linter.unusedVariables false
set_option linter.unusedSimpArgs false
/-- In every world behind w the call answers v, and lays blocks at most. -/
@[reducible] def Ans (base : Nat) (w : World) (g : Nat) (args : Array Value) (v : Value) : Prop := ∀ W, Below base w W → Calls Try.prog g args W fun e w' => e = .returned v ∧ Below W.heap.size W w'
/-- The same for a call that hands back a row. -/
@[reducible] def AnsR (base : Nat) (w : World) (g : Nat) (args : Array Value) (r : List Int) (b : Bool) : Prop := ∀ W, Below base w W → Calls Try.prog g args W fun e w' => ∃ A c, e = .returned (.tuple #[.slice A r.length c, .bool b]) ∧ r.length ≤ c ∧ Kd.C (Kd.int .i64) w' A r.length r ∧ Below W.heap.size W w'
/-- The boxes of the two snails. -/
@[reducible] def Bx (w0 : World) (s0 s1 t0 t1 : Int) (W : World) : Prop := Below w0.heap.size w0 W ∧ W.cell? ⟨w0.heap.size, 0, none⟩ = some (.int .i64 s0) ∧ W.cell? ⟨w0.heap.size, 1, none⟩ = some (.int .i64 s1) ∧ W.cell? ⟨w0.heap.size + 1, 0, none⟩ = some (.int .i64 t0) ∧ W.cell? ⟨w0.heap.size + 1, 1, none⟩ = some (.int .i64 t1)
theorem Bx.step {w0 W W' : World} {s0 s1 t0 t1 : Int} (h : Bx w0 s0 s1 t0 t1 W) (hb : Below W.heap.size W W') : Bx w0 s0 s1 t0 t1 W' := by
  have kc : ∀ p v, W.cell? p = some v → W'.cell? p = some v := fun p v h => (hb.cell (World.block_lt_of_cell? W _ h)).trans h
  obtain ⟨h0, h1, h2, h3, h4⟩ := h
  exact ⟨h0.trans (hb.mono h0.size), kc _ _ h1, kc _ _ h2, kc _ _ h3, kc _ _ h4⟩
theorem Bx.start (W : World) (a b c d : Int) (t : TypeId) : Bx W a b c d ((W.alloc (.cells #[.int .i64 a, .int .i64 b] t)).alloc (.cells #[.int .i64 c, .int .i64 d] t)) := by
  refine ⟨below_alloc (below_alloc (Below.refl W.heap.size W) _) _, ?_, ?_, ?_, ?_⟩
  · rw [World.cell?_alloc2_first]; rfl
  · rw [World.cell?_alloc2_first]; rfl
  · rw [World.cell?_alloc2_new]; rfl
  · rw [World.cell?_alloc2_new]; rfl
/-- What the test of the day owes. -/
def FOk (w0 : World) (s0 s1 t0 t1 wall day lead : Int) : Prop := ∃ ea eb back : Int, (lead != wrap64 (ea - eb)) = false ∧ (back != wrap64 (-lead)) = false ∧ Ans w0.heap.size w0 30 #[.agg #[.int .i64 s0, .int .i64 s1], .int .i64 wall, .int .i64 day] (.tuple #[.int .i64 ea, .bool true]) ∧ Ans w0.heap.size w0 30 #[.agg #[.int .i64 t0, .int .i64 t1], .int .i64 wall, .int .i64 day] (.tuple #[.int .i64 eb, .bool true]) ∧ Ans w0.heap.size w0 28 #[.agg #[.int .i64 t0, .int .i64 t1], .agg #[.int .i64 s0, .int .i64 s1], .int .i64 wall, .int .i64 day] (.tuple #[.int .i64 back, .bool true])
/-- Who wins: the first, the second, both on one day. -/
inductive Wn : Bool → Bool → Int → Int → Int → Int → Prop
  | oneT (x y : Int) (h : (x < y)) : Wn true true x y 1 2
  | twoT (x y : Int) (h : (y < x)) : Wn true true x y 2 1
  | none (x : Int) : Wn true true x x 0 0
  | one (x y : Int) : Wn true false x y 1 2
  | two (x y : Int) : Wn false true x y 2 1
def FOne (w0 : World) (s0 s1 t0 t1 wall winner changes : Int) : Prop := ∃ (x y other : Int) (five six : Bool), Wn five six x y winner other ∧ 0 ≤ changes ∧ changes ≤ 1 ∧ Ans w0.heap.size w0 31 #[.agg #[.int .i64 s0, .int .i64 s1], .int .i64 wall] (.tuple #[.int .i64 x, .bool five]) ∧ Ans w0.heap.size w0 31 #[.agg #[.int .i64 t0, .int .i64 t1], .int .i64 wall] (.tuple #[.int .i64 y, .bool six]) ∧ Ans w0.heap.size w0 13 #[.agg #[.int .i64 t0, .int .i64 t1], .agg #[.int .i64 s0, .int .i64 s1], .int .i64 wall] (.tuple #[.int .i64 other, .bool true]) ∧ Ans w0.heap.size w0 27 #[.agg #[.int .i64 t0, .int .i64 t1], .agg #[.int .i64 s0, .int .i64 s1], .int .i64 wall] (.tuple #[.int .i64 changes, .bool true])

/-- The greatest of the first i heights. -/
def mxP (hs : List Int) (i : Nat) : Int := (hs.take i).foldl max 0
theorem mxP_succ (hs : List Int) (i : Nat) (h : i < hs.length) : mxP hs (i + 1) = max (mxP hs i) (rd hs (i : Int)) := by
  unfold mxP
  rw [List.take_succ_eq_append_getElem h, List.foldl_append]
  simp [rd, List.getD_eq_getElem?_getD, h]
/-- What the test of the height on day i + 1 owes. -/
def HF (hs : List Int) (up w too : Int) (b7 : Bool) (i : Nat) : Prop :=
  (1 ≤ rd hs (i : Int) ∧ rd hs (i : Int) ≤ w) ∧
  ((rd hs (i : Int) = w ∧ b7 = true ∧ too ≤ (i : Int) + 1) ∨ (rd hs (i : Int) ≠ w ∧ b7 = true ∧ (i : Int) + 1 < too) ∨ (rd hs (i : Int) ≠ w ∧ b7 = false)) ∧
  (0 < i → w ≤ rd hs ((i : Int) - 1) ∨ (rd hs ((i : Int) - 1) < w ∧ rd hs (i : Int) ≤ wrap64 (rd hs ((i : Int) - 1) + up)))
def FFive (w0 : World) (up w d : Int) (l5 hs : List Int) (too far : Int) (b7 b8 : Bool) : Prop :=
  b8 = true ∧ (hs.length : Int) = d ∧ 1 ≤ d ∧ d ≤ 1000 ∧ up ≤ 1000 ∧ (∀ i : Nat, i < hs.length → HF hs up w too b7 i) ∧ mxP hs hs.length ≤ far ∧ (mxP hs hs.length < w → far = mxP hs hs.length) ∧
  (l5.length = 1 → ∃ top : Int, Ans w0.heap.size w0 30 #[.agg #[.int .i64 up, .int .i64 (rd l5 0)], .int .i64 w, .int .i64 d] (.tuple #[.int .i64 (rd hs (d - 1)), .bool true]) ∧ Ans w0.heap.size w0 31 #[.agg #[.int .i64 up, .int .i64 (rd l5 0)], .int .i64 w] (.tuple #[.int .i64 top, .bool b7]) ∧ (b7 = true → top = too))

def FactsA (v : World) (s0 s1 t0 t1 wall day : Int) : Prop := ∃ (lead winner changes : Int) (ok one : Bool), Ans v.heap.size v 28 #[.agg #[.int .i64 s0, .int .i64 s1], .agg #[.int .i64 t0, .int .i64 t1], .int .i64 wall, .int .i64 day] (.tuple #[.int .i64 lead, .bool ok]) ∧ Ans v.heap.size v 29 #[.agg #[.int .i64 s0, .int .i64 s1], .agg #[.int .i64 t0, .int .i64 t1], .int .i64 wall, .int .i64 day] (.tuple #[.int .i64 lead, .bool ok]) ∧ Ans v.heap.size v 13 #[.agg #[.int .i64 s0, .int .i64 s1], .agg #[.int .i64 t0, .int .i64 t1], .int .i64 wall] (.tuple #[.int .i64 winner, .bool one]) ∧ Ans v.heap.size v 11 #[.agg #[.int .i64 s0, .int .i64 s1], .agg #[.int .i64 t0, .int .i64 t1], .int .i64 wall] (.tuple #[.int .i64 winner, .bool one]) ∧ Ans v.heap.size v 27 #[.agg #[.int .i64 s0, .int .i64 s1], .agg #[.int .i64 t0, .int .i64 t1], .int .i64 wall] (.tuple #[.int .i64 changes, .bool one]) ∧ Ans v.heap.size v 26 #[.agg #[.int .i64 s0, .int .i64 s1], .agg #[.int .i64 t0, .int .i64 t1], .int .i64 wall] (.tuple #[.int .i64 changes, .bool one]) ∧ (ok = true → FOk v s0 s1 t0 t1 wall day lead) ∧ (one = true → FOne v s0 s1 t0 t1 wall winner changes)
def FactsB (v : World) (A5 : Option Addr) (c5 : Nat) (l5 : List Int) (up w d : Int) : Prop := ∃ (hs : List Int) (too far : Int) (five b7 b8 : Bool), AnsR v.heap.size v 23 #[.int .i64 up, .slice A5 l5.length c5, .int .i64 w, .int .i64 d] hs five ∧ AnsR v.heap.size v 22 #[.int .i64 up, .slice A5 l5.length c5, .int .i64 w, .int .i64 d] hs five ∧ Ans v.heap.size v 19 #[.int .i64 up, .slice A5 l5.length c5, .int .i64 w] (.tuple #[.int .i64 too, .bool b7]) ∧ Ans v.heap.size v 18 #[.int .i64 up, .slice A5 l5.length c5, .int .i64 w] (.tuple #[.int .i64 too, .bool b7]) ∧ Ans v.heap.size v 16 #[.int .i64 up, .slice A5 l5.length c5, .int .i64 d] (.tuple #[.int .i64 far, .bool b8]) ∧ Ans v.heap.size v 14 #[.int .i64 up, .slice A5 l5.length c5, .int .i64 d] (.tuple #[.int .i64 far, .bool b8]) ∧ (∀ (W : World) (A A' : Option Addr) (c c' : Nat), Kd.C (Kd.int .i64) W A hs.length hs → hs.length ≤ c → Kd.C (Kd.int .i64) W A' hs.length hs → hs.length ≤ c' → Calls Try.prog 32 #[.slice A hs.length c, .slice A' hs.length c'] W fun e w' => e = .returned (.bool true) ∧ Below W.heap.size W w') ∧ (five = true → FFive v up w d l5 hs too far b7 b8)
set_option maxHeartbeats 8000000 in
set_option maxRecDepth 100000 in
theorem race (Ac Am : Option Addr) (cc cm : Nat) (lc lm : List Int) (w0 : World) (hrm : Kd.C (Kd.int .u8) w0 Am lm.length lm)
    (hbig : ∀ W, Below w0.heap.size w0 W → Calls Try.prog 33 #[.slice Ac lc.length cc, .slice Am lm.length cm] W fun e w' => e = .returned (.bool false) ∧ Below W.heap.size W w')
    (hd1 : ∀ W, Below w0.heap.size w0 W → Calls Try.prog 34 #[.slice Ac lc.length cc] W (DrawP.DrwLead W)) (hd2 : ∀ W, Below w0.heap.size w0 W → Calls Try.prog 35 #[.slice Am lm.length cm] W (DrawP.DrwHeights W))
    (hA : ∀ (v : World) (s0 s1 t0 t1 wall day : Int), FactsA v s0 s1 t0 t1 wall day) (hB : ∀ (v : World) (A5 : Option Addr) (c5 : Nat) (l5 : List Int) (up w d : Int), Kd.C (Kd.int .i64) v A5 l5.length l5 → l5.length ≤ c5 → FactsB v A5 c5 l5 up w d) :
    Calls Try.prog 10 #[.slice Ac lc.length cc, .slice Am lm.length cm] w0 fun e w' => e = .returned (.bool true) ∧ Below w0.heap.size w0 w' := by
  have HBG := Aside0.mk hbig
  have HD1 := Aside0.mk hd1
  have HD2 := Aside0.mk hd2
  have HFA := Aside0.mk hA
  have HFB := Aside0.mk hB
  clear hbig hd1 hd2 hA hB hrm
  have hu26 := Try.underlying26
  go_enter Try.func10, Try.ntmps10
  go_wp2_with fail
  (with_reducible refine (HBG.out _ (Below.refl _ _)).mono ?_)
  rintro e u1 ⟨rfl, hb1⟩
  go_wp2_with fail
  (with_reducible refine (HD1.out _ hb1).mono ?_)
  rintro e v0 ⟨s0, s1, t0, t1, wall, day, rfl, hb2⟩
  have HW0 := Aside0.mk (hb1.trans (hb2.mono hb1.size))
  clear hb1 hb2
  obtain ⟨lead, winner, changes, ok, one, h1, h2, h3, h4, h5, h6, f1, f2⟩ := HFA.out v0 s0 s1 t0 t1 wall day
  have H1 := Aside0.mk h1
  have H2 := Aside0.mk h2
  have H3 := Aside0.mk h3
  have H4 := Aside0.mk h4
  have H5 := Aside0.mk h5
  have H6 := Aside0.mk h6
  have F1 := Aside0.mk f1
  have F2 := Aside0.mk f2
  clear h1 h2 h3 h4 h5 h6 f1 f2 HFA HD1 HBG
  have HB := Aside0.mk (Bx.start v0 s0 s1 t0 t1 26)
  go_upto_if 147 with (first | (go_at_call 28; (with_reducible refine (H1.out _ HB.out.1).mono ?_); rintro e w1 ⟨rfl, hb1⟩; have HB := Aside0.mk (HB.out.step hb1); obtain ⟨c0, c1, c2, c3⟩ := HB.out.2; clear hb1) | (go_at_call 29; (with_reducible refine (H2.out _ HB.out.1).mono ?_); rintro e w1 ⟨rfl, hb1⟩; have HB := Aside0.mk (HB.out.step hb1); obtain ⟨c0, c1, c2, c3⟩ := HB.out.2; clear hb1) | (go_at_call 13; (with_reducible refine (H3.out _ HB.out.1).mono ?_); rintro e w1 ⟨rfl, hb1⟩; have HB := Aside0.mk (HB.out.step hb1); obtain ⟨c0, c1, c2, c3⟩ := HB.out.2; clear hb1) | (go_at_call 11; (with_reducible refine (H4.out _ HB.out.1).mono ?_); rintro e w1 ⟨rfl, hb1⟩; have HB := Aside0.mk (HB.out.step hb1); obtain ⟨c0, c1, c2, c3⟩ := HB.out.2; clear hb1) | (go_at_call 27; (with_reducible refine (H5.out _ HB.out.1).mono ?_); rintro e w1 ⟨rfl, hb1⟩; have HB := Aside0.mk (HB.out.step hb1); obtain ⟨c0, c1, c2, c3⟩ := HB.out.2; clear hb1) | (go_at_call 26; (with_reducible refine (H6.out _ HB.out.1).mono ?_); rintro e w1 ⟨rfl, hb1⟩; have HB := Aside0.mk (HB.out.step hb1); obtain ⟨c0, c1, c2, c3⟩ := HB.out.2; clear hb1))
  go_cut [] from 147 to 147 (fun wc => Bx v0 s0 s1 t0 t1 wc)
  case first =>
    as_aux_lemma =>
    cases ok
    · go_wp2_with fail
      go_meet
      exact HB.out
    · obtain ⟨ea, eb, back, q1, q2, a1, a2, a3⟩ := F1.out rfl
      have G1 := Aside0.mk a1
      have G2 := Aside0.mk a2
      have G3 := Aside0.mk a3
      clear a1 a2 a3
      go_wp2_with (first | (go_at_call 30; (with_reducible refine (G1.out _ HB.out.1).mono ?_); rintro e w1 ⟨rfl, hb1⟩; have HB := Aside0.mk (HB.out.step hb1); obtain ⟨c0, c1, c2, c3⟩ := HB.out.2; clear hb1) | (go_at_call 30; (with_reducible refine (G2.out _ HB.out.1).mono ?_); rintro e w1 ⟨rfl, hb1⟩; have HB := Aside0.mk (HB.out.step hb1); obtain ⟨c0, c1, c2, c3⟩ := HB.out.2; clear hb1) | (go_at_call 28; (with_reducible refine (G3.out _ HB.out.1).mono ?_); rintro e w1 ⟨rfl, hb1⟩; have HB := Aside0.mk (HB.out.step hb1); obtain ⟨c0, c1, c2, c3⟩ := HB.out.2; clear hb1))
      go_meet
      exact HB.out
  case rest =>
  as_aux_lemma =>
  clear HB
  have HB := Aside0.mk hcut
  obtain ⟨c0, c1, c2, c3⟩ := hcut.2
  clear hcut F1
  go_upto_if 193 with fail
  go_cut [] from 193 to 193 (fun wc => Bx v0 s0 s1 t0 t1 wc)
  case first =>
    as_aux_lemma =>
    cases one
    · go_wp2_with fail
      go_meet
      exact HB.out
    · obtain ⟨x, y, other, b5, b6, wn, q1, q2, a1, a2, a3, a4⟩ := F2.out rfl
      have G1 := Aside0.mk a1
      have G2 := Aside0.mk a2
      have G3 := Aside0.mk a3
      have G4 := Aside0.mk a4
      clear a1 a2 a3 a4
      have d1 : decide (changes < 0) = false := decide_eq_false (by omega)
      have d2 : decide (changes > 1) = false := decide_eq_false (by omega)
      have d3 : decide (1 < changes) = false := decide_eq_false (by omega)
      rcases wn with ⟨_, _, hxy⟩ | ⟨_, _, hxy⟩ | ⟨_⟩ | ⟨_, _⟩ | ⟨_, _⟩
      · have e1 : decide (x < y) = true := decide_eq_true hxy
        have e2 : decide (y < x) = false := decide_eq_false (by omega)
        go_wp2_with (first | (go_at_call 31; (with_reducible refine (G1.out _ HB.out.1).mono ?_); rintro e w1 ⟨rfl, hb1⟩; have HB := Aside0.mk (HB.out.step hb1); obtain ⟨c0, c1, c2, c3⟩ := HB.out.2; clear hb1) | (go_at_call 31; (with_reducible refine (G2.out _ HB.out.1).mono ?_); rintro e w1 ⟨rfl, hb1⟩; have HB := Aside0.mk (HB.out.step hb1); obtain ⟨c0, c1, c2, c3⟩ := HB.out.2; clear hb1) | (go_at_call 13; (with_reducible refine (G3.out _ HB.out.1).mono ?_); rintro e w1 ⟨rfl, hb1⟩; have HB := Aside0.mk (HB.out.step hb1); obtain ⟨c0, c1, c2, c3⟩ := HB.out.2; clear hb1) | (go_at_call 27; (with_reducible refine (G4.out _ HB.out.1).mono ?_); rintro e w1 ⟨rfl, hb1⟩; have HB := Aside0.mk (HB.out.step hb1); obtain ⟨c0, c1, c2, c3⟩ := HB.out.2; clear hb1))
        go_meet
        exact HB.out
      · have e1 : decide (y < x) = true := decide_eq_true hxy
        have e2 : decide (x < y) = false := decide_eq_false (by omega)
        go_wp2_with (first | (go_at_call 31; (with_reducible refine (G1.out _ HB.out.1).mono ?_); rintro e w1 ⟨rfl, hb1⟩; have HB := Aside0.mk (HB.out.step hb1); obtain ⟨c0, c1, c2, c3⟩ := HB.out.2; clear hb1) | (go_at_call 31; (with_reducible refine (G2.out _ HB.out.1).mono ?_); rintro e w1 ⟨rfl, hb1⟩; have HB := Aside0.mk (HB.out.step hb1); obtain ⟨c0, c1, c2, c3⟩ := HB.out.2; clear hb1) | (go_at_call 13; (with_reducible refine (G3.out _ HB.out.1).mono ?_); rintro e w1 ⟨rfl, hb1⟩; have HB := Aside0.mk (HB.out.step hb1); obtain ⟨c0, c1, c2, c3⟩ := HB.out.2; clear hb1) | (go_at_call 27; (with_reducible refine (G4.out _ HB.out.1).mono ?_); rintro e w1 ⟨rfl, hb1⟩; have HB := Aside0.mk (HB.out.step hb1); obtain ⟨c0, c1, c2, c3⟩ := HB.out.2; clear hb1))
        go_meet
        exact HB.out
      · go_wp2_with (first | (go_at_call 31; (with_reducible refine (G1.out _ HB.out.1).mono ?_); rintro e w1 ⟨rfl, hb1⟩; have HB := Aside0.mk (HB.out.step hb1); obtain ⟨c0, c1, c2, c3⟩ := HB.out.2; clear hb1) | (go_at_call 31; (with_reducible refine (G2.out _ HB.out.1).mono ?_); rintro e w1 ⟨rfl, hb1⟩; have HB := Aside0.mk (HB.out.step hb1); obtain ⟨c0, c1, c2, c3⟩ := HB.out.2; clear hb1) | (go_at_call 13; (with_reducible refine (G3.out _ HB.out.1).mono ?_); rintro e w1 ⟨rfl, hb1⟩; have HB := Aside0.mk (HB.out.step hb1); obtain ⟨c0, c1, c2, c3⟩ := HB.out.2; clear hb1) | (go_at_call 27; (with_reducible refine (G4.out _ HB.out.1).mono ?_); rintro e w1 ⟨rfl, hb1⟩; have HB := Aside0.mk (HB.out.step hb1); obtain ⟨c0, c1, c2, c3⟩ := HB.out.2; clear hb1))
        go_meet
        exact HB.out
      · go_wp2_with (first | (go_at_call 31; (with_reducible refine (G1.out _ HB.out.1).mono ?_); rintro e w1 ⟨rfl, hb1⟩; have HB := Aside0.mk (HB.out.step hb1); obtain ⟨c0, c1, c2, c3⟩ := HB.out.2; clear hb1) | (go_at_call 31; (with_reducible refine (G2.out _ HB.out.1).mono ?_); rintro e w1 ⟨rfl, hb1⟩; have HB := Aside0.mk (HB.out.step hb1); obtain ⟨c0, c1, c2, c3⟩ := HB.out.2; clear hb1) | (go_at_call 13; (with_reducible refine (G3.out _ HB.out.1).mono ?_); rintro e w1 ⟨rfl, hb1⟩; have HB := Aside0.mk (HB.out.step hb1); obtain ⟨c0, c1, c2, c3⟩ := HB.out.2; clear hb1) | (go_at_call 27; (with_reducible refine (G4.out _ HB.out.1).mono ?_); rintro e w1 ⟨rfl, hb1⟩; have HB := Aside0.mk (HB.out.step hb1); obtain ⟨c0, c1, c2, c3⟩ := HB.out.2; clear hb1))
        go_meet
        exact HB.out
      · go_wp2_with (first | (go_at_call 31; (with_reducible refine (G1.out _ HB.out.1).mono ?_); rintro e w1 ⟨rfl, hb1⟩; have HB := Aside0.mk (HB.out.step hb1); obtain ⟨c0, c1, c2, c3⟩ := HB.out.2; clear hb1) | (go_at_call 31; (with_reducible refine (G2.out _ HB.out.1).mono ?_); rintro e w1 ⟨rfl, hb1⟩; have HB := Aside0.mk (HB.out.step hb1); obtain ⟨c0, c1, c2, c3⟩ := HB.out.2; clear hb1) | (go_at_call 13; (with_reducible refine (G3.out _ HB.out.1).mono ?_); rintro e w1 ⟨rfl, hb1⟩; have HB := Aside0.mk (HB.out.step hb1); obtain ⟨c0, c1, c2, c3⟩ := HB.out.2; clear hb1) | (go_at_call 27; (with_reducible refine (G4.out _ HB.out.1).mono ?_); rintro e w1 ⟨rfl, hb1⟩; have HB := Aside0.mk (HB.out.step hb1); obtain ⟨c0, c1, c2, c3⟩ := HB.out.2; clear hb1))
        go_meet
        exact HB.out
  case rest =>
  as_aux_lemma =>
  clear HB
  have HB0 := Aside0.mk (HW0.out.trans (hcut.1.mono HW0.out.size))
  clear hcut F2
  go_wp2_with fail
  (with_reducible refine (HD2.out _ HB0.out).mono ?_)
  rintro e v6 ⟨up, w, d, l5, A5, c5, rfl, hc5, hr5, hb2⟩
  obtain ⟨hs, too, far, five, b7, b8, h7, h8, h9, h10, h11, h12, h13, f3⟩ := HFB.out v6 A5 c5 l5 up w d hr5 hc5
  have HB6 := Aside0.mk (HB0.out.trans (hb2.mono HB0.out.size))
  have HB := Aside0.mk (Below.refl v6.heap.size v6)
  have H7 := Aside0.mk h7
  have H8 := Aside0.mk h8
  have H9 := Aside0.mk h9
  have H10 := Aside0.mk h10
  have H11 := Aside0.mk h11
  have H12 := Aside0.mk h12
  have H13 := Aside0.mk h13
  have F3 := Aside0.mk f3
  have HR5 := Aside0.mk hr5
  have HC5 := Aside0.mk hc5
  clear h7 h8 h9 h10 h11 h12 h13 f3 hr5 hc5 hb2 HB0 HD2 HFB
  go_upto_if 370 with (first | (go_at_call 23; (with_reducible refine (H7.out _ HB.out).mono ?_); rintro e w1 ⟨A7, c7, rfl, hc7, hC7, hb1⟩; have HD := Aside0.mk hC7; have HL := Aside0.mk hc7; clear hC7 hc7; have HB := Aside0.mk (HB.out.trans (hb1.mono HB.out.size)); clear hb1) | (go_at_call 22; (with_reducible refine (H8.out _ HB.out).mono ?_); rintro e w1 ⟨A8, c8, rfl, hc8, hC8, hb1⟩; have HD := Aside0.mk (Kd.C_below HD.out hb1); have HE := Aside0.mk hC8; have HM := Aside0.mk hc8; clear hC8 hc8; have HB := Aside0.mk (HB.out.trans (hb1.mono HB.out.size)); clear hb1) | (go_at_call 19; (with_reducible refine (H9.out _ HB.out).mono ?_); rintro e w1 ⟨rfl, hb1⟩; have HD := Aside0.mk (Kd.C_below HD.out hb1); have HE := Aside0.mk (Kd.C_below HE.out hb1); have HB := Aside0.mk (HB.out.trans (hb1.mono HB.out.size)); clear hb1) | (go_at_call 18; (with_reducible refine (H10.out _ HB.out).mono ?_); rintro e w1 ⟨rfl, hb1⟩; have HD := Aside0.mk (Kd.C_below HD.out hb1); have HE := Aside0.mk (Kd.C_below HE.out hb1); have HB := Aside0.mk (HB.out.trans (hb1.mono HB.out.size)); clear hb1) | (go_at_call 16; (with_reducible refine (H11.out _ HB.out).mono ?_); rintro e w1 ⟨rfl, hb1⟩; have HD := Aside0.mk (Kd.C_below HD.out hb1); have HE := Aside0.mk (Kd.C_below HE.out hb1); have HB := Aside0.mk (HB.out.trans (hb1.mono HB.out.size)); clear hb1) | (go_at_call 14; (with_reducible refine (H12.out _ HB.out).mono ?_); rintro e w1 ⟨rfl, hb1⟩; have HD := Aside0.mk (Kd.C_below HD.out hb1); have HE := Aside0.mk (Kd.C_below HE.out hb1); have HB := Aside0.mk (HB.out.trans (hb1.mono HB.out.size)); clear hb1) | (go_at_call 32; (with_reducible refine (H13.out _ _ _ _ _ HD.out HL.out HE.out HM.out).mono ?_); rintro e w1 ⟨rfl, hb1⟩; have HD := Aside0.mk (Kd.C_below HD.out hb1); clear HE; have HB := Aside0.mk (HB.out.trans (hb1.mono HB.out.size)); clear hb1))
  cases five
  · as_aux_lemma =>
    go_wp2_with fail
    go_ret
    exact ⟨rfl, HB6.out.trans (HB.out.mono HB6.out.size)⟩
  · as_aux_lemma =>
    obtain ⟨e8, hd, hd1, hd2, hup, hF, hm1, hm2, hone⟩ := F3.out rfl
    subst e8 hd
    have HFx := Aside0.mk hF
    have HM1 := Aside0.mk hm1
    have HM2 := Aside0.mk hm2
    have HON := Aside0.mk hone
    have HUP := Aside0.mk hup
    clear hF hm1 hm2 hone F3 hup
    go_wp2_with fail
    go_loopg [381, 52] hs.length (fun gg vi vm wr => ∃ i : Int, vi = .int .i64 i ∧ vm = .int .i64 (mxP hs i.toNat) ∧ 0 ≤ i ∧ i ≤ hs.length ∧ (hs.length - i).toNat ≤ gg ∧ Aside0 (Below v6.heap.size v6 wr) ∧ Aside0 (Kd.C (Kd.int .i64) wr A7 hs.length hs))
    case atStart => exact ⟨0, by go_num, by simp [mxP], by omega, by omega, by omega, HB, HD⟩
    case round =>
      clear HB HD
      obtain ⟨i, rfl, rfl, hi0, hin, hgg, HB, HD⟩ := hrel
      by_cases hlt : i < (hs.length : Int)
      · as_aux_lemma =>
        have hF := HFx.out i.toNat (by omega)
        have MX := mxP_succ hs i.toNat (by omega)
        unfold HF at hF
        rw [show ((i.toNat : Nat) : Int) = i by omega] at hF MX
        rw [show i.toNat + 1 = (i + 1).toNat by omega] at MX
        obtain ⟨⟨h1, h2⟩, h3, h4⟩ := hF
        obtain ⟨ad, ea, hx⟩ := Kd.at_int HD.out i hi0 hlt
        cases ea
        have MX := Aside0.mk MX
        generalize rd hs i = z at *
        generalize mxP hs i.toNat = m0 at *
        have i1 : decide (z < 1) = false := decide_eq_false (by omega)
        have i2 : decide (z > w) = false := decide_eq_false (by omega)
        have i3 : decide (w < z) = false := decide_eq_false (by omega)
        rcases h3 with ⟨ez, e7, ht⟩ | ⟨nz, e7, ht⟩ | ⟨nz, e7⟩
        · have z1 : (z == w) = true := beq_iff_eq.mpr ez
          have z2 : (z != w) = false := bne_eq_false_iff_eq.mpr ez
          have z3 : decide (too ≤ i + 1) = true := decide_eq_true ht
          have EZ := Aside0.mk ez
          clear ez
          subst e7
          as_aux_lemma =>
          by_cases h0 : 0 < i
          · have d0 : decide (i > 0) = true := decide_eq_true (by omega)
            have d1 : decide (0 < i) = true := decide_eq_true (by omega)
            have p0 : 0 ≤ i - 1 := by omega
            have p1 : i - 1 < (hs.length : Int) := by omega
            obtain ⟨ad2, ea, hy⟩ := Kd.at_int HD.out (i - 1) p0 p1
            cases ea
            have hy2 := hy
            rw [show (i - 1).toNat = i.toNat - 1 by omega] at hy2
            have h4 := h4 (by omega)
            generalize rd hs (i - 1) = q at *
            rcases h4 with hq | ⟨hq, hq2⟩
            · have q1 : decide (q < w) = false := decide_eq_false (by omega)
              by_cases hm : z > m0
              · have m1 : decide (z > m0) = true := decide_eq_true hm
                have m2 : decide (m0 < z) = true := decide_eq_true hm
                have MY : Aside0 (mxP hs (i + 1).toNat = z) := ⟨by rw [MX.out]; omega⟩
                clear MX hm
                go_wp2_with fail
                go_roundg (hs.length - (i + 1)).toNat
                case measure => omega
                case rel => exact ⟨i + 1, by go_num, by rw [MY.out], by omega, by omega, by omega, HB, HD⟩
              · have m1 : decide (z > m0) = false := decide_eq_false hm
                have m2 : decide (m0 < z) = false := decide_eq_false hm
                have MY : Aside0 (mxP hs (i + 1).toNat = m0) := ⟨by rw [MX.out]; omega⟩
                clear MX hm
                go_wp2_with fail
                go_roundg (hs.length - (i + 1)).toNat
                case measure => omega
                case rel => exact ⟨i + 1, by go_num, by rw [MY.out], by omega, by omega, by omega, HB, HD⟩
            · have q1 : decide (q < w) = true := decide_eq_true hq
              have q2 : decide (z > wrap64 (q + up)) = false := decide_eq_false (by omega)
              have q3 : decide (wrap64 (q + up) < z) = false := decide_eq_false (by omega)
              clear hq2
              by_cases hm : z > m0
              · have m1 : decide (z > m0) = true := decide_eq_true hm
                have m2 : decide (m0 < z) = true := decide_eq_true hm
                have MY : Aside0 (mxP hs (i + 1).toNat = z) := ⟨by rw [MX.out]; omega⟩
                clear MX hm
                go_wp2_with fail
                go_roundg (hs.length - (i + 1)).toNat
                case measure => omega
                case rel => exact ⟨i + 1, by go_num, by rw [MY.out], by omega, by omega, by omega, HB, HD⟩
              · have m1 : decide (z > m0) = false := decide_eq_false hm
                have m2 : decide (m0 < z) = false := decide_eq_false hm
                have MY : Aside0 (mxP hs (i + 1).toNat = m0) := ⟨by rw [MX.out]; omega⟩
                clear MX hm
                go_wp2_with fail
                go_roundg (hs.length - (i + 1)).toNat
                case measure => omega
                case rel => exact ⟨i + 1, by go_num, by rw [MY.out], by omega, by omega, by omega, HB, HD⟩
          · have d0 : decide (i > 0) = false := decide_eq_false (by omega)
            have d1 : decide (0 < i) = false := decide_eq_false (by omega)
            clear h4
            by_cases hm : z > m0
            · have m1 : decide (z > m0) = true := decide_eq_true hm
              have m2 : decide (m0 < z) = true := decide_eq_true hm
              have MY : Aside0 (mxP hs (i + 1).toNat = z) := ⟨by rw [MX.out]; omega⟩
              clear MX hm
              go_wp2_with fail
              go_roundg (hs.length - (i + 1)).toNat
              case measure => omega
              case rel => exact ⟨i + 1, by go_num, by rw [MY.out], by omega, by omega, by omega, HB, HD⟩
            · have m1 : decide (z > m0) = false := decide_eq_false hm
              have m2 : decide (m0 < z) = false := decide_eq_false hm
              have MY : Aside0 (mxP hs (i + 1).toNat = m0) := ⟨by rw [MX.out]; omega⟩
              clear MX hm
              go_wp2_with fail
              go_roundg (hs.length - (i + 1)).toNat
              case measure => omega
              case rel => exact ⟨i + 1, by go_num, by rw [MY.out], by omega, by omega, by omega, HB, HD⟩
        · have z1 : (z == w) = false := beq_eq_false_iff_ne.mpr nz
          have z2 : (z != w) = true := bne_iff_ne.mpr nz
          have z3 : decide (too ≤ i + 1) = false := decide_eq_false (by omega)
          subst e7
          as_aux_lemma =>
          by_cases h0 : 0 < i
          · have d0 : decide (i > 0) = true := decide_eq_true (by omega)
            have d1 : decide (0 < i) = true := decide_eq_true (by omega)
            have p0 : 0 ≤ i - 1 := by omega
            have p1 : i - 1 < (hs.length : Int) := by omega
            obtain ⟨ad2, ea, hy⟩ := Kd.at_int HD.out (i - 1) p0 p1
            cases ea
            have hy2 := hy
            rw [show (i - 1).toNat = i.toNat - 1 by omega] at hy2
            have h4 := h4 (by omega)
            generalize rd hs (i - 1) = q at *
            rcases h4 with hq | ⟨hq, hq2⟩
            · have q1 : decide (q < w) = false := decide_eq_false (by omega)
              by_cases hm : z > m0
              · have m1 : decide (z > m0) = true := decide_eq_true hm
                have m2 : decide (m0 < z) = true := decide_eq_true hm
                have MY : Aside0 (mxP hs (i + 1).toNat = z) := ⟨by rw [MX.out]; omega⟩
                clear MX hm
                go_wp2_with fail
                go_roundg (hs.length - (i + 1)).toNat
                case measure => omega
                case rel => exact ⟨i + 1, by go_num, by rw [MY.out], by omega, by omega, by omega, HB, HD⟩
              · have m1 : decide (z > m0) = false := decide_eq_false hm
                have m2 : decide (m0 < z) = false := decide_eq_false hm
                have MY : Aside0 (mxP hs (i + 1).toNat = m0) := ⟨by rw [MX.out]; omega⟩
                clear MX hm
                go_wp2_with fail
                go_roundg (hs.length - (i + 1)).toNat
                case measure => omega
                case rel => exact ⟨i + 1, by go_num, by rw [MY.out], by omega, by omega, by omega, HB, HD⟩
            · have q1 : decide (q < w) = true := decide_eq_true hq
              have q2 : decide (z > wrap64 (q + up)) = false := decide_eq_false (by omega)
              have q3 : decide (wrap64 (q + up) < z) = false := decide_eq_false (by omega)
              clear hq2
              by_cases hm : z > m0
              · have m1 : decide (z > m0) = true := decide_eq_true hm
                have m2 : decide (m0 < z) = true := decide_eq_true hm
                have MY : Aside0 (mxP hs (i + 1).toNat = z) := ⟨by rw [MX.out]; omega⟩
                clear MX hm
                go_wp2_with fail
                go_roundg (hs.length - (i + 1)).toNat
                case measure => omega
                case rel => exact ⟨i + 1, by go_num, by rw [MY.out], by omega, by omega, by omega, HB, HD⟩
              · have m1 : decide (z > m0) = false := decide_eq_false hm
                have m2 : decide (m0 < z) = false := decide_eq_false hm
                have MY : Aside0 (mxP hs (i + 1).toNat = m0) := ⟨by rw [MX.out]; omega⟩
                clear MX hm
                go_wp2_with fail
                go_roundg (hs.length - (i + 1)).toNat
                case measure => omega
                case rel => exact ⟨i + 1, by go_num, by rw [MY.out], by omega, by omega, by omega, HB, HD⟩
          · have d0 : decide (i > 0) = false := decide_eq_false (by omega)
            have d1 : decide (0 < i) = false := decide_eq_false (by omega)
            clear h4
            by_cases hm : z > m0
            · have m1 : decide (z > m0) = true := decide_eq_true hm
              have m2 : decide (m0 < z) = true := decide_eq_true hm
              have MY : Aside0 (mxP hs (i + 1).toNat = z) := ⟨by rw [MX.out]; omega⟩
              clear MX hm
              go_wp2_with fail
              go_roundg (hs.length - (i + 1)).toNat
              case measure => omega
              case rel => exact ⟨i + 1, by go_num, by rw [MY.out], by omega, by omega, by omega, HB, HD⟩
            · have m1 : decide (z > m0) = false := decide_eq_false hm
              have m2 : decide (m0 < z) = false := decide_eq_false hm
              have MY : Aside0 (mxP hs (i + 1).toNat = m0) := ⟨by rw [MX.out]; omega⟩
              clear MX hm
              go_wp2_with fail
              go_roundg (hs.length - (i + 1)).toNat
              case measure => omega
              case rel => exact ⟨i + 1, by go_num, by rw [MY.out], by omega, by omega, by omega, HB, HD⟩
        · have z1 : (z == w) = false := beq_eq_false_iff_ne.mpr nz
          have z2 : (z != w) = true := bne_iff_ne.mpr nz
          subst e7
          as_aux_lemma =>
          by_cases h0 : 0 < i
          · have d0 : decide (i > 0) = true := decide_eq_true (by omega)
            have d1 : decide (0 < i) = true := decide_eq_true (by omega)
            have p0 : 0 ≤ i - 1 := by omega
            have p1 : i - 1 < (hs.length : Int) := by omega
            obtain ⟨ad2, ea, hy⟩ := Kd.at_int HD.out (i - 1) p0 p1
            cases ea
            have hy2 := hy
            rw [show (i - 1).toNat = i.toNat - 1 by omega] at hy2
            have h4 := h4 (by omega)
            generalize rd hs (i - 1) = q at *
            rcases h4 with hq | ⟨hq, hq2⟩
            · have q1 : decide (q < w) = false := decide_eq_false (by omega)
              by_cases hm : z > m0
              · have m1 : decide (z > m0) = true := decide_eq_true hm
                have m2 : decide (m0 < z) = true := decide_eq_true hm
                have MY : Aside0 (mxP hs (i + 1).toNat = z) := ⟨by rw [MX.out]; omega⟩
                clear MX hm
                go_wp2_with fail
                go_roundg (hs.length - (i + 1)).toNat
                case measure => omega
                case rel => exact ⟨i + 1, by go_num, by rw [MY.out], by omega, by omega, by omega, HB, HD⟩
              · have m1 : decide (z > m0) = false := decide_eq_false hm
                have m2 : decide (m0 < z) = false := decide_eq_false hm
                have MY : Aside0 (mxP hs (i + 1).toNat = m0) := ⟨by rw [MX.out]; omega⟩
                clear MX hm
                go_wp2_with fail
                go_roundg (hs.length - (i + 1)).toNat
                case measure => omega
                case rel => exact ⟨i + 1, by go_num, by rw [MY.out], by omega, by omega, by omega, HB, HD⟩
            · have q1 : decide (q < w) = true := decide_eq_true hq
              have q2 : decide (z > wrap64 (q + up)) = false := decide_eq_false (by omega)
              have q3 : decide (wrap64 (q + up) < z) = false := decide_eq_false (by omega)
              clear hq2
              by_cases hm : z > m0
              · have m1 : decide (z > m0) = true := decide_eq_true hm
                have m2 : decide (m0 < z) = true := decide_eq_true hm
                have MY : Aside0 (mxP hs (i + 1).toNat = z) := ⟨by rw [MX.out]; omega⟩
                clear MX hm
                go_wp2_with fail
                go_roundg (hs.length - (i + 1)).toNat
                case measure => omega
                case rel => exact ⟨i + 1, by go_num, by rw [MY.out], by omega, by omega, by omega, HB, HD⟩
              · have m1 : decide (z > m0) = false := decide_eq_false hm
                have m2 : decide (m0 < z) = false := decide_eq_false hm
                have MY : Aside0 (mxP hs (i + 1).toNat = m0) := ⟨by rw [MX.out]; omega⟩
                clear MX hm
                go_wp2_with fail
                go_roundg (hs.length - (i + 1)).toNat
                case measure => omega
                case rel => exact ⟨i + 1, by go_num, by rw [MY.out], by omega, by omega, by omega, HB, HD⟩
          · have d0 : decide (i > 0) = false := decide_eq_false (by omega)
            have d1 : decide (0 < i) = false := decide_eq_false (by omega)
            clear h4
            by_cases hm : z > m0
            · have m1 : decide (z > m0) = true := decide_eq_true hm
              have m2 : decide (m0 < z) = true := decide_eq_true hm
              have MY : Aside0 (mxP hs (i + 1).toNat = z) := ⟨by rw [MX.out]; omega⟩
              clear MX hm
              go_wp2_with fail
              go_roundg (hs.length - (i + 1)).toNat
              case measure => omega
              case rel => exact ⟨i + 1, by go_num, by rw [MY.out], by omega, by omega, by omega, HB, HD⟩
            · have m1 : decide (z > m0) = false := decide_eq_false hm
              have m2 : decide (m0 < z) = false := decide_eq_false hm
              have MY : Aside0 (mxP hs (i + 1).toNat = m0) := ⟨by rw [MX.out]; omega⟩
              clear MX hm
              go_wp2_with fail
              go_roundg (hs.length - (i + 1)).toNat
              case measure => omega
              case rel => exact ⟨i + 1, by go_num, by rw [MY.out], by omega, by omega, by omega, HB, HD⟩
      · have e : i = (hs.length : Int) := by omega
        subst e
        as_aux_lemma =>
        rw [show ((hs.length : Nat) : Int).toNat = hs.length by omega]
        have hm1 := HM1.out
        have hm2 := HM2.out
        have hon := HON.out
        clear HM1 HM2 HON HFx
        generalize mxP hs hs.length = M at *
        have n1 : decide (far < M) = false := decide_eq_false (by omega)
        have u1 : decide (up ≤ 1000) = true := decide_eq_true HUP.out
        obtain ⟨fb, hfb⟩ : ∃ b : Bool, b = (M < w && far != M) := ⟨_, rfl⟩
        have hfb0 : fb = false := by
          rw [hfb]
          by_cases hM : M < w
          · rw [hm2 hM]; simp
          · simp [hM]
        by_cases hM : M < w
        · have n2 : decide (M < w) = true := decide_eq_true hM
          have n3 : (far != M) = false := bne_eq_false_iff_eq.mpr (hm2 hM)
          clear hm2 hm1 hfb hfb0
          by_cases h1 : l5.length = 1
          · obtain ⟨top, g1, g2, g3⟩ := hon h1
            have l1 : ((l5.length : Int) == 1) = true := beq_iff_eq.mpr (by omega)
            have l2 : 0 < (l5.length : Int) := by omega
            obtain ⟨ad5, e5, h50⟩ := Kd.at_int HR5.out 0 (by omega) (by omega)
            cases e5
            have h51 := (HB.out.cell (World.block_lt_of_cell? v6 _ h50)).trans h50
            have h52 : wr.cell? ad5 = some (.int .i64 (rd l5 0)) := by simpa [Addr.add] using h51
            clear h50 h51
            generalize rd l5 0 = s at *
            have G1 := Aside0.mk g1
            have G2 := Aside0.mk g2
            have G3 := Aside0.mk g3
            have P0 : 0 ≤ (hs.length : Int) - 1 := by omega
            have P1 : (hs.length : Int) - 1 < (hs.length : Int) := by omega
            have HB2 := Aside0.mk (below_alloc HB.out (.cells #[.int .i64 up, .int .i64 s] 26))
            have HD2 := Aside0.mk (Kd.C_below HD.out (below_alloc (Below.refl _ _) (.cells #[.int .i64 up, .int .i64 s] 26)))
            have hcA : ∀ W', Below (wr.heap.size + 1) (wr.alloc (.cells #[.int .i64 up, .int .i64 s] 26)) W' → W'.cell? ⟨wr.heap.size, 0, none⟩ = some (.int .i64 up) ∧ W'.cell? ⟨wr.heap.size, 1, none⟩ = some (.int .i64 s) := fun W' hW => by
              have e0 : (wr.alloc (.cells #[.int .i64 up, .int .i64 s] 26)).cell? ⟨wr.heap.size, 0, none⟩ = some (.int .i64 up) := by rw [World.cell?_alloc_new]; rfl
              have e1 : (wr.alloc (.cells #[.int .i64 up, .int .i64 s] 26)).cell? ⟨wr.heap.size, 1, none⟩ = some (.int .i64 s) := by rw [World.cell?_alloc_new]; rfl
              exact ⟨(hW.cell (by simp)).trans e0, (hW.cell (by simp)).trans e1⟩
            have HCA := Aside0.mk hcA
            clear g1 g2 g3 hon h1 hcA
            cases b7
            · as_aux_lemma =>
              go_wp2_with (first | (go_at_call 30; ((with_reducible refine (G1.out _ HB2.out).mono ?_); rintro e w1 ⟨rfl, hb1⟩; have hb1 := hb1; have hb2 := hb1.mono (Nat.le_of_eq (World.size_alloc wr (.cells #[.int .i64 up, .int .i64 s] 26)).symm); obtain ⟨k0, k1⟩ := HCA.out _ hb2; have HD := Aside0.mk (Kd.C_below HD2.out hb1); have HB3 := Aside0.mk (HB2.out.trans (hb1.mono HB2.out.size)); clear hb1 hb2)) | (go_at_call 31; (with_reducible refine (G2.out _ HB3.out).mono ?_); rintro e w2 ⟨rfl, hb1⟩; have HD := Aside0.mk (Kd.C_below HD.out hb1); have HB3 := Aside0.mk (HB3.out.trans (hb1.mono HB3.out.size)); obtain ⟨ad, ea, hx⟩ := Kd.at_int HD.out ((hs.length : Int) - 1) P0 P1; cases ea; have hx2 := hx; rw [show ((hs.length : Int) - 1).toNat = hs.length - 1 by omega] at hx2; clear hb1))
              go_ret
              exact ⟨rfl, HB6.out.trans (HB3.out.mono HB6.out.size)⟩
            · have e := G3.out rfl
              subst e
              as_aux_lemma =>
              go_wp2_with (first | (go_at_call 30; ((with_reducible refine (G1.out _ HB2.out).mono ?_); rintro e w1 ⟨rfl, hb1⟩; have hb1 := hb1; have hb2 := hb1.mono (Nat.le_of_eq (World.size_alloc wr (.cells #[.int .i64 up, .int .i64 s] 26)).symm); obtain ⟨k0, k1⟩ := HCA.out _ hb2; have HD := Aside0.mk (Kd.C_below HD2.out hb1); have HB3 := Aside0.mk (HB2.out.trans (hb1.mono HB2.out.size)); clear hb1 hb2)) | (go_at_call 31; (with_reducible refine (G2.out _ HB3.out).mono ?_); rintro e w2 ⟨rfl, hb1⟩; have HD := Aside0.mk (Kd.C_below HD.out hb1); have HB3 := Aside0.mk (HB3.out.trans (hb1.mono HB3.out.size)); obtain ⟨ad, ea, hx⟩ := Kd.at_int HD.out ((hs.length : Int) - 1) P0 P1; cases ea; have hx2 := hx; rw [show ((hs.length : Int) - 1).toNat = hs.length - 1 by omega] at hx2; clear hb1))
              go_ret
              exact ⟨rfl, HB6.out.trans (HB3.out.mono HB6.out.size)⟩
          · have l1 : ((l5.length : Int) == 1) = false := beq_eq_false_iff_ne.mpr (by omega)
            clear hon
            go_wp2_with fail
            go_ret
            exact ⟨rfl, HB6.out.trans (HB.out.mono HB6.out.size)⟩
        · have n2 : decide (M < w) = false := decide_eq_false hM
          clear hm2 hm1 hfb hfb0
          by_cases h1 : l5.length = 1
          · obtain ⟨top, g1, g2, g3⟩ := hon h1
            have l1 : ((l5.length : Int) == 1) = true := beq_iff_eq.mpr (by omega)
            have l2 : 0 < (l5.length : Int) := by omega
            obtain ⟨ad5, e5, h50⟩ := Kd.at_int HR5.out 0 (by omega) (by omega)
            cases e5
            have h51 := (HB.out.cell (World.block_lt_of_cell? v6 _ h50)).trans h50
            have h52 : wr.cell? ad5 = some (.int .i64 (rd l5 0)) := by simpa [Addr.add] using h51
            clear h50 h51
            generalize rd l5 0 = s at *
            have G1 := Aside0.mk g1
            have G2 := Aside0.mk g2
            have G3 := Aside0.mk g3
            have P0 : 0 ≤ (hs.length : Int) - 1 := by omega
            have P1 : (hs.length : Int) - 1 < (hs.length : Int) := by omega
            have HB2 := Aside0.mk (below_alloc HB.out (.cells #[.int .i64 up, .int .i64 s] 26))
            have HD2 := Aside0.mk (Kd.C_below HD.out (below_alloc (Below.refl _ _) (.cells #[.int .i64 up, .int .i64 s] 26)))
            have hcA : ∀ W', Below (wr.heap.size + 1) (wr.alloc (.cells #[.int .i64 up, .int .i64 s] 26)) W' → W'.cell? ⟨wr.heap.size, 0, none⟩ = some (.int .i64 up) ∧ W'.cell? ⟨wr.heap.size, 1, none⟩ = some (.int .i64 s) := fun W' hW => by
              have e0 : (wr.alloc (.cells #[.int .i64 up, .int .i64 s] 26)).cell? ⟨wr.heap.size, 0, none⟩ = some (.int .i64 up) := by rw [World.cell?_alloc_new]; rfl
              have e1 : (wr.alloc (.cells #[.int .i64 up, .int .i64 s] 26)).cell? ⟨wr.heap.size, 1, none⟩ = some (.int .i64 s) := by rw [World.cell?_alloc_new]; rfl
              exact ⟨(hW.cell (by simp)).trans e0, (hW.cell (by simp)).trans e1⟩
            have HCA := Aside0.mk hcA
            clear g1 g2 g3 hon h1 hcA
            cases b7
            · as_aux_lemma =>
              go_wp2_with (first | (go_at_call 30; ((with_reducible refine (G1.out _ HB2.out).mono ?_); rintro e w1 ⟨rfl, hb1⟩; have hb1 := hb1; have hb2 := hb1.mono (Nat.le_of_eq (World.size_alloc wr (.cells #[.int .i64 up, .int .i64 s] 26)).symm); obtain ⟨k0, k1⟩ := HCA.out _ hb2; have HD := Aside0.mk (Kd.C_below HD2.out hb1); have HB3 := Aside0.mk (HB2.out.trans (hb1.mono HB2.out.size)); clear hb1 hb2)) | (go_at_call 31; (with_reducible refine (G2.out _ HB3.out).mono ?_); rintro e w2 ⟨rfl, hb1⟩; have HD := Aside0.mk (Kd.C_below HD.out hb1); have HB3 := Aside0.mk (HB3.out.trans (hb1.mono HB3.out.size)); obtain ⟨ad, ea, hx⟩ := Kd.at_int HD.out ((hs.length : Int) - 1) P0 P1; cases ea; have hx2 := hx; rw [show ((hs.length : Int) - 1).toNat = hs.length - 1 by omega] at hx2; clear hb1))
              go_ret
              exact ⟨rfl, HB6.out.trans (HB3.out.mono HB6.out.size)⟩
            · have e := G3.out rfl
              subst e
              as_aux_lemma =>
              go_wp2_with (first | (go_at_call 30; ((with_reducible refine (G1.out _ HB2.out).mono ?_); rintro e w1 ⟨rfl, hb1⟩; have hb1 := hb1; have hb2 := hb1.mono (Nat.le_of_eq (World.size_alloc wr (.cells #[.int .i64 up, .int .i64 s] 26)).symm); obtain ⟨k0, k1⟩ := HCA.out _ hb2; have HD := Aside0.mk (Kd.C_below HD2.out hb1); have HB3 := Aside0.mk (HB2.out.trans (hb1.mono HB2.out.size)); clear hb1 hb2)) | (go_at_call 31; (with_reducible refine (G2.out _ HB3.out).mono ?_); rintro e w2 ⟨rfl, hb1⟩; have HD := Aside0.mk (Kd.C_below HD.out hb1); have HB3 := Aside0.mk (HB3.out.trans (hb1.mono HB3.out.size)); obtain ⟨ad, ea, hx⟩ := Kd.at_int HD.out ((hs.length : Int) - 1) P0 P1; cases ea; have hx2 := hx; rw [show ((hs.length : Int) - 1).toNat = hs.length - 1 by omega] at hx2; clear hb1))
              go_ret
              exact ⟨rfl, HB6.out.trans (HB3.out.mono HB6.out.size)⟩
          · have l1 : ((l5.length : Int) == 1) = false := beq_eq_false_iff_ne.mpr (by omega)
            clear hon
            go_wp2_with fail
            go_ret
            exact ⟨rfl, HB6.out.trans (HB.out.mono HB6.out.size)⟩
end Go.Proofs.Ytbbglmoenjdloaa.OFnSnailsRace
