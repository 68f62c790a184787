/- What the walk of the law FnWalkersMeetOfAll speaks of. -/
import Derived.Test.YtbcebecnogllcaaGreatDoorOFnWalkersMeetOfAllx2
import Derived.Test.YtbcebecnogllcaaGreatDoorOFnWalkersMeetOfAllx3
import Derived.Test.YtbcebecnogllcaaGreatDoorOFnWalkersMeetOfAllx4
import Derived.Test.YtbcebecnogllcaaGreatDoorOFnWalkersMeetOfAllx5
import Derived.Test.YtbcebecnogllcaaGreatDoorOFnWalkersMeetOfAllx6
import Derived.Test.YtbcebecnogllcaaGreatDoorOFnWalkersMeetOfAllx7
import Derived.Test.YtbcebecnogllcaaGreatDoorOFnWalkersMeetOfAllx8
import Derived.Test.YtbcebecnogllcaaGreatDoorOFnWalkersMeetOfAllx9
import Derived.Test.YtbcebecnogllcaaGreatDoorOFnWalkersMeetOfAllx10
import Derived.Test.YtbcebecnogllcaaGreatDoorMeetRS
import Derived.Test.YtbcebecnogllcaaGreatDoorTxWT
import Derived.Test.YtbcebecnogllcaaGreatDoorTxPW
import Derived.Deep.DeepCutAuto
import Derived.Deep.LoopGhost
import Derived.Deep.RegionHeld3
import Derived.BigQuiet
import Derived.WalkKit
namespace Go.Proofs.YtbcebecnogllcaaGreatDoor.OFnWalkersMeetOfAll
open Go.RowKit Go.Proofs.YtbcebecnogllcaaGreatDoor.Tx Go.Proofs.YtbcebecnogllcaaGreatDoorW.PrintWords Go.Proofs.YtbcebecnogllcaaGreatDoorW.PrintLast Go.Proofs.YtbcebecnogllcaaGreatDoorW.PrintMore
set_option linter.unusedVariables false
set_option linter.unusedSimpArgs false
/-- In every world the call answers v, and lays blocks at most. -/
@[reducible] def An (g : Nat) (args : Array Value) (v : Value) : Prop := ∀ W : World, Calls Tryz.prog g args W fun e w' => e = .returned v ∧ Below W.heap.size W w'
/-- The same for a call over the list of walkers, in every world in which it reads. -/
@[reducible] def AnL (g : Nat) (l : List S23) (v : Value) : Prop := ∀ (W : World) (Q : Option Addr) (c : Nat), Kd.C k23 W Q l.length l → l.length ≤ c → Calls Tryz.prog g #[.slice Q l.length c] W fun e w' => e = .returned v ∧ Below W.heap.size W w'
/-- The boxes of the five walkers. -/
@[reducible] def Bx (w0 : World) (p s p' s' q z p3 s3 p4 s4 : Int) (W : World) : Prop := Below w0.heap.size w0 W ∧ W.cell? ⟨w0.heap.size, 0, none⟩ = some (.int .i64 p) ∧ W.cell? ⟨w0.heap.size, 1, none⟩ = some (.int .i64 s) ∧ W.cell? ⟨w0.heap.size + 1, 0, none⟩ = some (.int .i64 p') ∧ W.cell? ⟨w0.heap.size + 1, 1, none⟩ = some (.int .i64 s') ∧ W.cell? ⟨w0.heap.size + 2, 0, none⟩ = some (.int .i64 q) ∧ W.cell? ⟨w0.heap.size + 2, 1, none⟩ = some (.int .i64 z) ∧ W.cell? ⟨w0.heap.size + 3, 0, none⟩ = some (.int .i64 p3) ∧ W.cell? ⟨w0.heap.size + 3, 1, none⟩ = some (.int .i64 s3) ∧ W.cell? ⟨w0.heap.size + 4, 0, none⟩ = some (.int .i64 p4) ∧ W.cell? ⟨w0.heap.size + 4, 1, none⟩ = some (.int .i64 s4)
theorem Bx.step {w0 W W' : World} {p s p' s' q z p3 s3 p4 s4 : Int} (h : Bx w0 p s p' s' q z p3 s3 p4 s4 W) (hb : Below W.heap.size W W') : Bx w0 p s p' s' q z p3 s3 p4 s4 W' := by
  have kc : ∀ p v, W.cell? p = some v → W'.cell? p = some v := fun p v h => (hb.cell (World.block_lt_of_cell? W _ h)).trans h
  obtain ⟨h0, h1, h2, h3, h4, h5, h6, h7, h8, h9, h10⟩ := h
  exact ⟨h0.trans (hb.mono h0.size), kc _ _ h1, kc _ _ h2, kc _ _ h3, kc _ _ h4, kc _ _ h5, kc _ _ h6, kc _ _ h7, kc _ _ h8, kc _ _ h9, kc _ _ h10⟩
theorem Bx.start (W : World) (p s p' s' q z p3 s3 p4 s4 : Int) (t : TypeId) : Bx W p s p' s' q z p3 s3 p4 s4 (((((W.alloc (.cells #[.int .i64 p, .int .i64 s] t)).alloc (.cells #[.int .i64 p', .int .i64 s'] t)).alloc (.cells #[.int .i64 q, .int .i64 z] t)).alloc (.cells #[.int .i64 p3, .int .i64 s3] t)).alloc (.cells #[.int .i64 p4, .int .i64 s4] t)) := by
  have a1 := heap_alloc_new W (.cells #[.int .i64 p, .int .i64 s] t)
  have a2 := heap_alloc_new (W.alloc (.cells #[.int .i64 p, .int .i64 s] t)) (.cells #[.int .i64 p', .int .i64 s'] t)
  have a3 := heap_alloc_new ((W.alloc (.cells #[.int .i64 p, .int .i64 s] t)).alloc (.cells #[.int .i64 p', .int .i64 s'] t)) (.cells #[.int .i64 q, .int .i64 z] t)
  have a4 := heap_alloc_new (((W.alloc (.cells #[.int .i64 p, .int .i64 s] t)).alloc (.cells #[.int .i64 p', .int .i64 s'] t)).alloc (.cells #[.int .i64 q, .int .i64 z] t)) (.cells #[.int .i64 p3, .int .i64 s3] t)
  have a5 := heap_alloc_new ((((W.alloc (.cells #[.int .i64 p, .int .i64 s] t)).alloc (.cells #[.int .i64 p', .int .i64 s'] t)).alloc (.cells #[.int .i64 q, .int .i64 z] t)).alloc (.cells #[.int .i64 p3, .int .i64 s3] t)) (.cells #[.int .i64 p4, .int .i64 s4] t)
  simp only [World.size_alloc] at a2 a3 a4 a5
  have b1 := blk_alloc (blk_alloc (blk_alloc (blk_alloc a1 (.cells #[.int .i64 p', .int .i64 s'] t)) (.cells #[.int .i64 q, .int .i64 z] t)) (.cells #[.int .i64 p3, .int .i64 s3] t)) (.cells #[.int .i64 p4, .int .i64 s4] t)
  have b2 := blk_alloc (blk_alloc (blk_alloc a2 (.cells #[.int .i64 q, .int .i64 z] t)) (.cells #[.int .i64 p3, .int .i64 s3] t)) (.cells #[.int .i64 p4, .int .i64 s4] t)
  have b3 := blk_alloc (blk_alloc a3 (.cells #[.int .i64 p3, .int .i64 s3] t)) (.cells #[.int .i64 p4, .int .i64 s4] t)
  have b4 := blk_alloc a4 (.cells #[.int .i64 p4, .int .i64 s4] t)
  exact ⟨below_alloc (below_alloc (below_alloc (below_alloc (below_alloc (Below.refl W.heap.size W) _) _) _) _) _, (blk_cell b1 0).trans rfl, (blk_cell b1 1).trans rfl, (blk_cell b2 0).trans rfl, (blk_cell b2 1).trans rfl, (blk_cell b3 0).trans rfl, (blk_cell b3 1).trans rfl, (blk_cell b4 0).trans rfl, (blk_cell b4 1).trans rfl, (blk_cell a5 0).trans rfl, (blk_cell a5 1).trans rfl⟩
def BxF (w0 : World) (p s p' s' q z p3 s3 p4 s4 : Int) (W : World) : Prop := Bx w0 p s p' s' q z p3 s3 p4 s4 W
theorem BxF.keep {w0 W W' : World} {p s p' s' q z p3 s3 p4 s4 : Int} (h : BxF w0 p s p' s' q z p3 s3 p4 s4 W ∧ W.cell? ⟨w0.heap.size, 0, none⟩ = some (.int .i64 p) ∧ W.cell? ⟨w0.heap.size, 1, none⟩ = some (.int .i64 s)) (hb : Below W.heap.size W W') : BxF w0 p s p' s' q z p3 s3 p4 s4 W' ∧ W'.cell? ⟨w0.heap.size, 0, none⟩ = some (.int .i64 p) ∧ W'.cell? ⟨w0.heap.size, 1, none⟩ = some (.int .i64 s) :=
  have k := Bx.step h.1 hb
  ⟨k, k.2.1, k.2.2.1⟩
theorem BxF.of {w0 W : World} {p s p' s' q z p3 s3 p4 s4 : Int} (h : Bx w0 p s p' s' q z p3 s3 p4 s4 W) : BxF w0 p s p' s' q z p3 s3 p4 s4 W ∧ W.cell? ⟨w0.heap.size, 0, none⟩ = some (.int .i64 p) ∧ W.cell? ⟨w0.heap.size, 1, none⟩ = some (.int .i64 s) := ⟨h, h.2.1, h.2.2.1⟩
/-- What the first test owes where both meet. -/
def FOk (p s p' s' num den place part : Int) : Prop :=
  (wrap64 (place * den) != wrap64 (part * wrap64 (wrap64 (p * den) + wrap64 (s * num)))) = false ∧ (wrap64 (place * den) != wrap64 (part * wrap64 (wrap64 (p' * den) + wrap64 (s' * num)))) = false ∧ 0 ≤ num ∧
  An 4 #[.agg #[.int .i64 p', .int .i64 s'], .agg #[.int .i64 p, .int .i64 s]] (.tuple #[.int .i64 num, .int .i64 den, .bool true]) ∧ An 10 #[.int .i64 num, .int .i64 den] (.bool true) ∧ An 10 #[.int .i64 place, .int .i64 part] (.bool true)
def FNo (p s p' s' : Int) : Prop := ¬ p = p' ∧ wrap64 (wrap64 (p' - p) * wrap64 (s - s')) ≤ 0
/-- Two rows in their order. -/
def Ordd (a' b' c' d' a b c d : Int) : Prop := ¬ wrap64 (c * d') < wrap64 (c' * d) ∧ (wrap64 (c' * d) = wrap64 (c * d') → ¬ a < a' ∧ (a' = a → ¬ b ≤ b'))
def Row4 (r : List Int) (a b c d : Int) : Prop := r.getD 0 0 = a ∧ r.getD 1 0 = b ∧ r.getD 2 0 = c ∧ r.getD 3 0 = d
/-- What the test of row i owes. -/
def RowF (l : List S23) (rs : List (List Int)) (i : Nat) : Prop :=
  ∃ a b c d : Int, Row4 (rs.getD i []) a b c d ∧ 0 ≤ a ∧ a < b ∧ b < (l.length : Int) ∧
    An 4 #[.agg #[.int .i64 (l.getD a.toNat z23).f0, .int .i64 (l.getD a.toNat z23).f1], .agg #[.int .i64 (l.getD b.toNat z23).f0, .int .i64 (l.getD b.toNat z23).f1]] (.tuple #[.int .i64 c, .int .i64 d, .bool true]) ∧
    (0 < i → ∃ a' b' c' d' : Int, Row4 (rs.getD (i - 1) []) a' b' c' d' ∧ Ordd a' b' c' d' a b c d)
/-- What the third test owes. -/
def FThree (K : Nat) (l : List S23) (rs : List (List Int)) (cnt : Int) (txt : ByteArray) : Prop :=
  rs.length ≤ 1000 ∧ (rs.length : Int) = cnt ∧ (∀ i, i < rs.length → RowF l rs i) ∧ (∀ W : World, T2 W → Calls Tryz.prog 21 #[.string txt] W (PwPost l true W)) ∧ laws_yWalkers.f K l l = some true
def FNine (q z top low at' of' : Int) : Prop := An 10 #[.int .i64 at', .int .i64 of'] (.bool true) ∧ (wrap64 (at' * low) != wrap64 (of' * wrap64 (wrap64 (q * low) + wrap64 (z * top)))) = false
def FEleven (p3 s3 p4 s4 m n gap wide : Int) : Prop :=
  An 10 #[.int .i64 gap, .int .i64 wide] (.bool true) ∧ 0 ≤ gap ∧ An 19 #[.agg #[.int .i64 p4, .int .i64 s4], .agg #[.int .i64 p3, .int .i64 s3], .int .i64 m, .int .i64 n] (.tuple #[.int .i64 gap, .int .i64 wide, .bool true]) ∧
  ∃ sz : Int, wrap64 (wrap64 (wrap64 (p3 - p4) * n) + wrap64 (wrap64 (s3 - s4) * m)) = sz ∧ (sz < 0 → (wrap64 (gap * n) != wrap64 (wide * wrap64 (-sz))) = false) ∧ (¬ sz < 0 → (wrap64 (gap * n) != wrap64 (wide * sz)) = false)
/-- A text of the list, in every world in which it reads. -/
@[reducible] def AnT (g : Nat) (l : List S23) (v : Value) : Prop := ∀ (W : World) (Q : Option Addr) (c : Nat), T1 W → Kd.C k23 W Q l.length l → l.length ≤ c → Calls Tryz.prog g #[.slice Q l.length c] W fun e w' => e = .returned v ∧ Below W.heap.size W w'
/-- The cells that the drawn call reads. -/
@[reducible] def RowS (wr : World) (g : Nat) (a b : Int) (u v : Addr) (x0 x1 y0 y1 : Int) (W : World) : Prop := Below wr.heap.size wr W ∧ W.cell? ⟨g, 0, none⟩ = some (.int .i64 a) ∧ W.cell? ⟨g, 1, none⟩ = some (.int .i64 b) ∧ W.cell? u = some (.int .i64 x0) ∧ W.cell? ⟨u.block, u.off + 1, none⟩ = some (.int .i64 x1) ∧ W.cell? v = some (.int .i64 y0) ∧ W.cell? ⟨v.block, v.off + 1, none⟩ = some (.int .i64 y1)
theorem RowS.keep {wr W W' : World} {g : Nat} {a b : Int} {u v : Addr} {x0 x1 y0 y1 : Int} (h : RowS wr g a b u v x0 x1 y0 y1 W) (hb : Below W.heap.size W W') : RowS wr g a b u v x0 x1 y0 y1 W' := by
  have kc : ∀ p v, W.cell? p = some v → W'.cell? p = some v := fun p v h => (hb.cell (World.block_lt_of_cell? W _ h)).trans h
  obtain ⟨h0, h1, h2, h3, h4, h5, h6⟩ := h
  exact ⟨h0.trans (hb.mono h0.size), kc _ _ h1, kc _ _ h2, kc _ _ h3, kc _ _ h4, kc _ _ h5, kc _ _ h6⟩
end Go.Proofs.YtbcebecnogllcaaGreatDoor.OFnWalkersMeetOfAll
