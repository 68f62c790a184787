/- What the walk of the law FnSnailsClimb speaks of. -/
import Derived.Test.YtaoejhikigljeaaGreatDoorOFnSnailsClimbx1
import Derived.Test.YtaoejhikigljeaaGreatDoorOFnSnailsClimbx2
import Derived.Test.YtaoejhikigljeaaGreatDoorOFnSnailsClimbx3
import Derived.Test.YtaoejhikigljeaaGreatDoorOFnSnailsClimbx4
import Derived.Test.YtaoejhikigljeaaGreatDoorOFnSnailsClimbx5
import Derived.Test.YtaoejhikigljeaaGreatDoorOFnSnailsClimbx6
import Derived.Test.YtaoejhikigljeaaGreatDoorOFnSnailsClimbx7
import Derived.Test.YtaoejhikigljeaaGreatDoorOFnSnailsClimbx8
import Derived.Test.YtaoejhikigljeaaGreatDoorOFnSnailsClimbx9
import Derived.Test.YtaoejhikigljeaaGreatDoorTxST
import Derived.Test.YtaoejhikigljeaaGreatDoorTxPS
import Derived.Test.YtaoejhikigljeaaGreatDoorDrawC
import Derived.Deep.DeepCutAuto
import Derived.Deep.RegionHeld3
import Derived.BigQuiet
import Derived.WalkKit
namespace Go.Proofs.YtaoejhikigljeaaGreatDoor.OFnSnailsClimb
open Go.RowKit Go.Proofs.YtaoejhikigljeaaGreatDoor.Tx Go.Proofs.YtaoejhikigljeaaGreatDoorW.PrintWords Go.Proofs.YtaoejhikigljeaaGreatDoorW.PrintLast Go.Proofs.YtaoejhikigljeaaGreatDoorW.PrintMore
set_option linter.unusedVariables false
set_option linter.unusedSimpArgs false
/-- In every world the call answers v, and lays blocks at most. -/
@[reducible] def An (g : Nat) (args : Array Value) (v : Value) : Prop := ∀ W : World, Calls Tryz.prog g args W fun e w' => e = .returned v ∧ Below W.heap.size W w'
/-- The same where the library's variables are as they are at the start. -/
@[reducible] def AnT (g : Nat) (args : Array Value) (v : Value) : Prop := ∀ W : World, T2 W → Calls Tryz.prog g args W fun e w' => e = .returned v ∧ Below W.heap.size W w'
/-- The box of a snail. -/
@[reducible] def B1 (v : World) (u d : Int) (W : World) : Prop := Below v.heap.size v W ∧ W.cell? ⟨v.heap.size, 0, none⟩ = some (.int .i64 u) ∧ W.cell? ⟨v.heap.size, 1, none⟩ = some (.int .i64 d)
theorem B1.step {v W W' : World} {u d : Int} (h : B1 v u d W) (hb : Below W.heap.size W W') : B1 v u d W' := by
  have kc : ∀ p v, W.cell? p = some v → W'.cell? p = some v := fun p v h => (hb.cell (World.block_lt_of_cell? W _ h)).trans h
  obtain ⟨h0, h1, h2⟩ := h
  exact ⟨h0.trans (hb.mono h0.size), kc _ _ h1, kc _ _ h2⟩
theorem B1.start (W : World) (a b : Int) (t : TypeId) : B1 W a b (W.alloc (.cells #[.int .i64 a, .int .i64 b] t)) := by
  have a1 := heap_alloc_new W (.cells #[.int .i64 a, .int .i64 b] t)
  exact ⟨below_alloc (Below.refl W.heap.size W) _, (blk_cell a1 0).trans rfl, (blk_cell a1 1).trans rfl⟩
/-- The boxes of two snails. -/
@[reducible] def B4 (v : World) (g : Nat) (u d p q : Int) (W : World) : Prop := Below v.heap.size v W ∧ W.cell? ⟨v.heap.size, 0, none⟩ = some (.int .i64 u) ∧ W.cell? ⟨v.heap.size, 1, none⟩ = some (.int .i64 d) ∧ W.cell? ⟨g, 0, none⟩ = some (.int .i64 p) ∧ W.cell? ⟨g, 1, none⟩ = some (.int .i64 q)
theorem B4.step {v W W' : World} {g : Nat} {u d p q : Int} (h : B4 v g u d p q W) (hb : Below W.heap.size W W') : B4 v g u d p q W' := by
  have kc : ∀ p v, W.cell? p = some v → W'.cell? p = some v := fun p v h => (hb.cell (World.block_lt_of_cell? W _ h)).trans h
  obtain ⟨h0, h1, h2, h3, h4⟩ := h
  exact ⟨h0.trans (hb.mono h0.size), kc _ _ h1, kc _ _ h2, kc _ _ h3, kc _ _ h4⟩
theorem B4.start {v W : World} {u d : Int} (h : B1 v u d W) (p q : Int) (t : TypeId) : B4 v W.heap.size u d p q (W.alloc (.cells #[.int .i64 p, .int .i64 q] t)) := by
  have k := B1.start W p q t
  have h' := h.step k.1
  exact ⟨h'.1, h'.2.1, h'.2.2, k.2.1, k.2.2⟩
def BxF (v : World) (u d : Int) (W : World) : Prop := B1 v u d W
theorem BxF.keep {v W W' : World} {u d : Int} (h : BxF v u d W ∧ W.cell? ⟨v.heap.size, 0, none⟩ = some (.int .i64 u) ∧ W.cell? ⟨v.heap.size, 1, none⟩ = some (.int .i64 d)) (hb : Below W.heap.size W W') : BxF v u d W' ∧ W'.cell? ⟨v.heap.size, 0, none⟩ = some (.int .i64 u) ∧ W'.cell? ⟨v.heap.size, 1, none⟩ = some (.int .i64 d) :=
  have k := B1.step h.1 hb
  ⟨k, k.2.1, k.2.2⟩
theorem BxF.of {v W : World} {u d : Int} (h : B1 v u d W) : BxF v u d W ∧ W.cell? ⟨v.heap.size, 0, none⟩ = some (.int .i64 u) ∧ W.cell? ⟨v.heap.size, 1, none⟩ = some (.int .i64 d) := ⟨h, h.2.1, h.2.2⟩
/-- What the day's test owes. -/
def COk (u d wall day morning evening far days : Int) (three : Bool) : Prop :=
  ((1 ≤ u ∧ u ≤ 1000) ∧ (0 ≤ d ∧ d ≤ 1000) ∧ (1 ≤ wall ∧ wall ≤ 1000000) ∧ 1 ≤ day ∧ day ≤ 1000000) ∧
  0 ≤ morning ∧ morning ≤ evening ∧ evening ≤ wall ∧ evening ≤ far ∧ (evening = wall ↔ (three = true ∧ days ≤ day)) ∧ (morning < wall → ¬ evening = wall → evening = morning + u) ∧
  (day < 1000000 → ∃ next : Int, An 6 #[.agg #[.int .i64 u, .int .i64 d], .int .i64 wall, .int .i64 (day + 1)] (.tuple #[.int .i64 next, .bool true]) ∧ (evening = wall → next = wall) ∧ (evening < wall → (next = evening - d ∨ next = 0) ∧ evening - d ≤ next))
/-- What a drawn snail, wall and day owe. -/
def COwes (u d wall day : Int) : Prop := ∃ (morning evening days far : Int) (text : ByteArray) (ok three five can seven nine : Bool),
  An 6 #[.agg #[.int .i64 u, .int .i64 d], .int .i64 wall, .int .i64 day] (.tuple #[.int .i64 morning, .bool ok]) ∧ An 7 #[.agg #[.int .i64 u, .int .i64 d], .int .i64 wall, .int .i64 day] (.tuple #[.int .i64 morning, .bool ok]) ∧
  An 8 #[.agg #[.int .i64 u, .int .i64 d], .int .i64 wall, .int .i64 day] (.tuple #[.int .i64 evening, .bool ok]) ∧ An 9 #[.agg #[.int .i64 u, .int .i64 d], .int .i64 wall, .int .i64 day] (.tuple #[.int .i64 evening, .bool ok]) ∧
  An 10 #[.agg #[.int .i64 u, .int .i64 d], .int .i64 wall] (.tuple #[.int .i64 days, .bool three]) ∧ An 11 #[.agg #[.int .i64 u, .int .i64 d], .int .i64 wall] (.tuple #[.int .i64 days, .bool three]) ∧
  An 12 #[.agg #[.int .i64 u, .int .i64 d], .int .i64 wall] (.tuple #[.bool can, .bool five]) ∧ An 13 #[.agg #[.int .i64 u, .int .i64 d], .int .i64 wall] (.tuple #[.bool can, .bool five]) ∧
  An 14 #[.agg #[.int .i64 u, .int .i64 d], .int .i64 day] (.tuple #[.int .i64 far, .bool seven]) ∧ An 15 #[.agg #[.int .i64 u, .int .i64 d], .int .i64 day] (.tuple #[.int .i64 far, .bool seven]) ∧
  AnT 16 #[.agg #[.int .i64 u, .int .i64 d]] (.tuple #[.string text, .bool nine]) ∧ An 17 #[.agg #[.int .i64 u, .int .i64 d]] (.tuple #[.string text, .bool nine]) ∧
  An 18 #[.agg #[.int .i64 u, .int .i64 d]] (.bool nine) ∧ An 19 #[.agg #[.int .i64 u, .int .i64 d]] (.bool nine) ∧
  three = (five && can) ∧ (ok = true → five = true ∧ seven = true ∧ COk u d wall day morning evening far days three) ∧
  (nine = true → AnT 20 #[.string text] (.tuple #[.agg #[.int .i64 u, .int .i64 d], .bool true]))
/-- What a drawn snail, wall and height owe. -/
def DOwes (u d w h : Int) : Prop := ∃ (fs times : Int) (eleven thirteen : Bool),
  An 22 #[.agg #[.int .i64 u, .int .i64 d], .int .i64 w, .int .i64 h] (.tuple #[.int .i64 fs, .bool eleven]) ∧ An 23 #[.agg #[.int .i64 u, .int .i64 d], .int .i64 w, .int .i64 h] (.tuple #[.int .i64 fs, .bool eleven]) ∧
  An 24 #[.agg #[.int .i64 u, .int .i64 d], .int .i64 w, .int .i64 h] (.tuple #[.int .i64 times, .bool thirteen]) ∧ An 25 #[.agg #[.int .i64 u, .int .i64 d], .int .i64 w, .int .i64 h] (.tuple #[.int .i64 times, .bool thirteen]) ∧
  (eleven = true → ∃ there : Int, An 8 #[.agg #[.int .i64 u, .int .i64 d], .int .i64 w, .int .i64 fs] (.tuple #[.int .i64 there, .bool true]) ∧ h ≤ there ∧
    (1 ≤ fs ∧ fs ≤ 1000000) ∧ (1 < fs → ∃ before : Int, An 8 #[.agg #[.int .i64 u, .int .i64 d], .int .i64 w, .int .i64 (fs - 1)] (.tuple #[.int .i64 before, .bool true]) ∧ before < h) ∧ (0 < h → thirteen = true → 1 ≤ times)) ∧
  (thirteen = true → eleven = false → times = 0)
/-- What a drawn wall, days and Down owe. -/
def SOwes (w d down : Int) : Prop := ∃ (slow : Int) (fifteen : Bool),
  An 27 #[.int .i64 w, .int .i64 d, .int .i64 down] (.tuple #[.int .i64 slow, .bool fifteen]) ∧ An 28 #[.int .i64 w, .int .i64 d, .int .i64 down] (.tuple #[.int .i64 slow, .bool fifteen]) ∧
  (fifteen = true → ∃ tp : Int, An 10 #[.agg #[.int .i64 slow, .int .i64 down], .int .i64 w] (.tuple #[.int .i64 tp, .bool true]) ∧ tp ≤ d ∧ (1 ≤ slow ∧ slow ≤ 1000) ∧
    (1 < slow → ∃ (late : Int) (dn : Bool), An 10 #[.agg #[.int .i64 (slow - 1), .int .i64 down], .int .i64 w] (.tuple #[.int .i64 late, .bool dn]) ∧ (dn = true → d < late)))
/-- What a drawn wall, days and Up owe. -/
def MOwes (x y up : Int) : Prop := ∃ (most : Int) (seventeen : Bool),
  An 30 #[.int .i64 x, .int .i64 y, .int .i64 up] (.tuple #[.int .i64 most, .bool seventeen]) ∧ An 31 #[.int .i64 x, .int .i64 y, .int .i64 up] (.tuple #[.int .i64 most, .bool seventeen]) ∧
  (seventeen = true → ∃ tp : Int, An 10 #[.agg #[.int .i64 up, .int .i64 most], .int .i64 x] (.tuple #[.int .i64 tp, .bool true]) ∧ tp ≤ y ∧ (0 ≤ most ∧ most ≤ 1000) ∧
    (most < 1000 → ∃ (late : Int) (dn : Bool), An 10 #[.agg #[.int .i64 up, .int .i64 (most + 1)], .int .i64 x] (.tuple #[.int .i64 late, .bool dn]) ∧ (dn = true → y < late)))
/-- What a drawn text owes. -/
def POwes (t : ByteArray) : Prop := ∃ (p q : Int) (nineteen : Bool),
  AnT 20 #[.string t] (.tuple #[.agg #[.int .i64 p, .int .i64 q], .bool nineteen]) ∧ An 33 #[.string t] (.tuple #[.agg #[.int .i64 p, .int .i64 q], .bool nineteen]) ∧
  (nineteen = true → AnT 16 #[.agg #[.int .i64 p, .int .i64 q]] (.tuple #[.string t, .bool true]))
end Go.Proofs.YtaoejhikigljeaaGreatDoor.OFnSnailsClimb
