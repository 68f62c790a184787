/- What the walk of the law FnWalkersMeet speaks of. -/
import Derived.Test.YtoideilmkcpilaaGreatDoorOFnWalkersMeetx1
import Derived.Test.YtoideilmkcpilaaGreatDoorOFnWalkersMeetx2
import Derived.Test.YtoideilmkcpilaaGreatDoorOFnWalkersMeetx3
import Derived.Test.YtoideilmkcpilaaGreatDoorOFnWalkersMeetx4
import Derived.Test.YtoideilmkcpilaaGreatDoorOFnWalkersMeetx5
import Derived.Test.YtoideilmkcpilaaGreatDoorOFnWalkersMeetx6
import Derived.Test.YtoideilmkcpilaaGreatDoorOFnWalkersMeetx7
import Derived.Test.YtoideilmkcpilaaGreatDoorOFnWalkersMeetx8
import Derived.Test.YtoideilmkcpilaaGreatDoorOFnWalkersMeetx9
import Derived.Test.YtoideilmkcpilaaGreatDoorOFnWalkersMeetx10
import Derived.Test.YtoideilmkcpilaaGreatDoorOFnWalkersMeetx11
import Derived.Test.YtoideilmkcpilaaGreatDoorOFnWalkersMeetx12
import Derived.Test.YtoideilmkcpilaaGreatDoorMeetRS
import Derived.Test.YtoideilmkcpilaaGreatDoorTxWT
import Derived.Test.YtoideilmkcpilaaGreatDoorTxPW
import Derived.Test.YtoideilmkcpilaaGreatDoorDrawMX
import Derived.Deep.DeepCutAuto
import Derived.Deep.LoopGhost
import Derived.Deep.RegionHeld3
import Derived.BigQuiet
import Derived.WalkKit
namespace Go.Proofs.YtoideilmkcpilaaGreatDoor.OFnWalkersMeet
open Go.RowKit Go.Proofs.YtoideilmkcpilaaGreatDoor.Tx Go.Proofs.YtoideilmkcpilaaGreatDoorW.PrintWords Go.Proofs.YtoideilmkcpilaaGreatDoorW.PrintLast Go.Proofs.YtoideilmkcpilaaGreatDoorW.PrintMore
set_option linter.unusedVariables false
set_option linter.unusedSimpArgs false
/-- In every world the call answers v, and lays blocks at most. -/
@[reducible] def An (g : Nat) (args : Array Value) (v : Value) : Prop := ∀ W : World, Calls Tryz.prog g args W fun e w' => e = .returned v ∧ Below W.heap.size W w'
/-- The same for a call over the list of walkers, in every world in which it reads. -/
@[reducible] def AnL (g : Nat) (l : List S25) (v : Value) : Prop := ∀ (W : World) (Q : Option Addr) (c : Nat), Kd.C k25 W Q l.length l → l.length ≤ c → Calls Tryz.prog g #[.slice Q l.length c] W fun e w' => e = .returned v ∧ Below W.heap.size W w'
/-- The boxes of the two walkers. -/
@[reducible] def B2 (v : World) (p s p' s' : Int) (W : World) : Prop := Below v.heap.size v W ∧ W.cell? ⟨v.heap.size, 0, none⟩ = some (.int .i64 p) ∧ W.cell? ⟨v.heap.size, 1, none⟩ = some (.int .i64 s) ∧ W.cell? ⟨v.heap.size + 1, 0, none⟩ = some (.int .i64 p') ∧ W.cell? ⟨v.heap.size + 1, 1, none⟩ = some (.int .i64 s')
theorem B2.step {v W W' : World} {p s p' s' : Int} (h : B2 v p s p' s' W) (hb : Below W.heap.size W W') : B2 v p s p' s' W' := by
  have kc : ∀ p v, W.cell? p = some v → W'.cell? p = some v := fun p v h => (hb.cell (World.block_lt_of_cell? W _ h)).trans h
  obtain ⟨h0, h1, h2, h3, h4⟩ := h
  exact ⟨h0.trans (hb.mono h0.size), kc _ _ h1, kc _ _ h2, kc _ _ h3, kc _ _ h4⟩
/-- The box of one walker. -/
@[reducible] def B1 (v : World) (q z : Int) (W : World) : Prop := Below v.heap.size v W ∧ W.cell? ⟨v.heap.size, 0, none⟩ = some (.int .i64 q) ∧ W.cell? ⟨v.heap.size, 1, none⟩ = some (.int .i64 z)
theorem B1.step {v W W' : World} {q z : Int} (h : B1 v q z W) (hb : Below W.heap.size W W') : B1 v q z W' := by
  have kc : ∀ p v, W.cell? p = some v → W'.cell? p = some v := fun p v h => (hb.cell (World.block_lt_of_cell? W _ h)).trans h
  obtain ⟨h0, h1, h2⟩ := h
  exact ⟨h0.trans (hb.mono h0.size), kc _ _ h1, kc _ _ h2⟩
/-- The boxes of three walkers. -/
@[reducible] def B3 (v : World) (g : Nat) (q z p3 s3 p4 s4 : Int) (W : World) : Prop := Below v.heap.size v W ∧ W.cell? ⟨g, 0, none⟩ = some (.int .i64 q) ∧ W.cell? ⟨g, 1, none⟩ = some (.int .i64 z) ∧ W.cell? ⟨v.heap.size, 0, none⟩ = some (.int .i64 p3) ∧ W.cell? ⟨v.heap.size, 1, none⟩ = some (.int .i64 s3) ∧ W.cell? ⟨v.heap.size + 1, 0, none⟩ = some (.int .i64 p4) ∧ W.cell? ⟨v.heap.size + 1, 1, none⟩ = some (.int .i64 s4)
theorem B3.step {v W W' : World} {g : Nat} {q z p3 s3 p4 s4 : Int} (h : B3 v g q z p3 s3 p4 s4 W) (hb : Below W.heap.size W W') : B3 v g q z p3 s3 p4 s4 W' := by
  have kc : ∀ p v, W.cell? p = some v → W'.cell? p = some v := fun p v h => (hb.cell (World.block_lt_of_cell? W _ h)).trans h
  obtain ⟨h0, h1, h2, h3, h4, h5, h6⟩ := h
  exact ⟨h0.trans (hb.mono h0.size), kc _ _ h1, kc _ _ h2, kc _ _ h3, kc _ _ h4, kc _ _ h5, kc _ _ h6⟩
theorem B2.start (W : World) (a b c d : Int) (t : TypeId) : B2 W a b c d ((W.alloc (.cells #[.int .i64 a, .int .i64 b] t)).alloc (.cells #[.int .i64 c, .int .i64 d] t)) := by
  have a1 := heap_alloc_new W (.cells #[.int .i64 a, .int .i64 b] t)
  have a2 := heap_alloc_new (W.alloc (.cells #[.int .i64 a, .int .i64 b] t)) (.cells #[.int .i64 c, .int .i64 d] t)
  simp only [World.size_alloc] at a2
  have b1 := qe a1 (.cells #[.int .i64 c, .int .i64 d] t)
  exact ⟨qb (qb (Below.refl W.heap.size W) _) _, (qh b1 0).trans rfl, (qh b1 1).trans rfl, (qh a2 0).trans rfl, (qh a2 1).trans rfl⟩
theorem B1.start (W : World) (a b : Int) (t : TypeId) : B1 W a b (W.alloc (.cells #[.int .i64 a, .int .i64 b] t)) := by
  have a1 := heap_alloc_new W (.cells #[.int .i64 a, .int .i64 b] t)
  exact ⟨qb (Below.refl W.heap.size W) _, (qh a1 0).trans rfl, (qh a1 1).trans rfl⟩
theorem B3.start (W : World) (g : Nat) (q z a b c d : Int) (t : TypeId) (h0 : W.cell? ⟨g, 0, none⟩ = some (.int .i64 q)) (h1 : W.cell? ⟨g, 1, none⟩ = some (.int .i64 z)) : B3 W g q z a b c d ((W.alloc (.cells #[.int .i64 a, .int .i64 b] t)).alloc (.cells #[.int .i64 c, .int .i64 d] t)) := by
  obtain ⟨k0, k1, k2, k3, k4⟩ := B2.start W a b c d t
  have kc : ∀ p v, W.cell? p = some v → ((W.alloc (.cells #[.int .i64 a, .int .i64 b] t)).alloc (.cells #[.int .i64 c, .int .i64 d] t)).cell? p = some v := fun p v h => (k0.cell (World.block_lt_of_cell? W _ h)).trans h
  exact ⟨k0, kc _ _ h0, kc _ _ h1, k1, k2, k3, k4⟩
def BxF (v : World) (p s p' s' : Int) (W : World) : Prop := B2 v p s p' s' W
theorem BxF.keep {v W W' : World} {p s p' s' : Int} (h : BxF v p s p' s' W ∧ W.cell? ⟨v.heap.size, 0, none⟩ = some (.int .i64 p) ∧ W.cell? ⟨v.heap.size, 1, none⟩ = some (.int .i64 s)) (hb : Below W.heap.size W W') : BxF v p s p' s' W' ∧ W'.cell? ⟨v.heap.size, 0, none⟩ = some (.int .i64 p) ∧ W'.cell? ⟨v.heap.size, 1, none⟩ = some (.int .i64 s) :=
  have k := B2.step h.1 hb
  ⟨k, k.2.1, k.2.2.1⟩
theorem BxF.of {v W : World} {p s p' s' : Int} (h : B2 v p s p' s' W) : BxF v p s p' s' W ∧ W.cell? ⟨v.heap.size, 0, none⟩ = some (.int .i64 p) ∧ W.cell? ⟨v.heap.size, 1, none⟩ = some (.int .i64 s) := ⟨h, h.2.1, h.2.2.1⟩
/-- What the first test owes where both meet. -/
def FOk (p s p' s' num den place part : Int) : Prop :=
  (wrap64 (place * den) != wrap64 (part * wrap64 (wrap64 (p * den) + wrap64 (s * num)))) = false ∧ (wrap64 (place * den) != wrap64 (part * wrap64 (wrap64 (p' * den) + wrap64 (s' * num)))) = false ∧ 0 ≤ num ∧
  An 6 #[.agg #[.int .i64 p', .int .i64 s'], .agg #[.int .i64 p, .int .i64 s]] (.tuple #[.int .i64 num, .int .i64 den, .bool true]) ∧ An 12 #[.int .i64 num, .int .i64 den] (.bool true) ∧ An 12 #[.int .i64 place, .int .i64 part] (.bool true)
def FNo (p s p' s' : Int) : Prop := ¬ p = p' ∧ wrap64 (wrap64 (p' - p) * wrap64 (s - s')) ≤ 0
/-- Two rows in their order. -/
def Ordd (a' b' c' d' a b c d : Int) : Prop := ¬ wrap64 (c * d') < wrap64 (c' * d) ∧ (wrap64 (c' * d) = wrap64 (c * d') → ¬ a < a' ∧ (a' = a → ¬ b ≤ b'))
def Row4 (r : List Int) (a b c d : Int) : Prop := r.getD 0 0 = a ∧ r.getD 1 0 = b ∧ r.getD 2 0 = c ∧ r.getD 3 0 = d
/-- What the test of row i owes. -/
def RowF (l : List S25) (rs : List (List Int)) (i : Nat) : Prop :=
  ∃ a b c d : Int, Row4 (rs.getD i []) a b c d ∧ 0 ≤ a ∧ a < b ∧ b < (l.length : Int) ∧
    An 6 #[.agg #[.int .i64 (l.getD a.toNat z25).f0, .int .i64 (l.getD a.toNat z25).f1], .agg #[.int .i64 (l.getD b.toNat z25).f0, .int .i64 (l.getD b.toNat z25).f1]] (.tuple #[.int .i64 c, .int .i64 d, .bool true]) ∧
    (0 < i → ∃ a' b' c' d' : Int, Row4 (rs.getD (i - 1) []) a' b' c' d' ∧ Ordd a' b' c' d' a b c d)
/-- What the third test owes. -/
def FThree (K : Nat) (l : List S25) (rs : List (List Int)) (cnt : Int) (txt : ByteArray) : Prop :=
  rs.length ≤ 1000 ∧ (rs.length : Int) = cnt ∧ (∀ i, i < rs.length → RowF l rs i) ∧ (∀ W : World, T2 W → Calls Tryz.prog 27 #[.string txt] W (PwPost l true W)) ∧ laws_yWalkers.f K l l = some true
def FNine (q z top low at' of' : Int) : Prop := An 12 #[.int .i64 at', .int .i64 of'] (.bool true) ∧ (wrap64 (at' * low) != wrap64 (of' * wrap64 (wrap64 (q * low) + wrap64 (z * top)))) = false
def FEleven (p3 s3 p4 s4 m n gap wide : Int) : Prop :=
  An 12 #[.int .i64 gap, .int .i64 wide] (.bool true) ∧ 0 ≤ gap ∧ An 24 #[.agg #[.int .i64 p4, .int .i64 s4], .agg #[.int .i64 p3, .int .i64 s3], .int .i64 m, .int .i64 n] (.tuple #[.int .i64 gap, .int .i64 wide, .bool true]) ∧
  ∃ sz : Int, wrap64 (wrap64 (wrap64 (p3 - p4) * n) + wrap64 (wrap64 (s3 - s4) * m)) = sz ∧ (sz < 0 → (wrap64 (gap * n) != wrap64 (wide * wrap64 (-sz))) = false) ∧ (¬ sz < 0 → (wrap64 (gap * n) != wrap64 (wide * sz)) = false)
/-- A text of the list, in every world in which it reads. -/
@[reducible] def AnT (g : Nat) (l : List S25) (v : Value) : Prop := ∀ (W : World) (Q : Option Addr) (c : Nat), T1 W → Kd.C k25 W Q l.length l → l.length ≤ c → Calls Tryz.prog g #[.slice Q l.length c] W fun e w' => e = .returned v ∧ Below W.heap.size W w'
/-- The cells that the drawn call reads. -/
@[reducible] def RowS (wr : World) (g : Nat) (a b : Int) (u v : Addr) (x0 x1 y0 y1 : Int) (W : World) : Prop := Below wr.heap.size wr W ∧ W.cell? ⟨g, 0, none⟩ = some (.int .i64 a) ∧ W.cell? ⟨g, 1, none⟩ = some (.int .i64 b) ∧ W.cell? u = some (.int .i64 x0) ∧ W.cell? ⟨u.block, u.off + 1, none⟩ = some (.int .i64 x1) ∧ W.cell? v = some (.int .i64 y0) ∧ W.cell? ⟨v.block, v.off + 1, none⟩ = some (.int .i64 y1)
theorem RowS.keep {wr W W' : World} {g : Nat} {a b : Int} {u v : Addr} {x0 x1 y0 y1 : Int} (h : RowS wr g a b u v x0 x1 y0 y1 W) (hb : Below W.heap.size W W') : RowS wr g a b u v x0 x1 y0 y1 W' := by
  have kc : ∀ p v, W.cell? p = some v → W'.cell? p = some v := fun p v h => (hb.cell (World.block_lt_of_cell? W _ h)).trans h
  obtain ⟨h0, h1, h2, h3, h4, h5, h6⟩ := h
  exact ⟨h0.trans (hb.mono h0.size), kc _ _ h1, kc _ _ h2, kc _ _ h3, kc _ _ h4, kc _ _ h5, kc _ _ h6⟩
/-- What two drawn walkers owe. -/
def MOwes (p s p' s' : Int) : Prop := ∃ (num den place part : Int) (ok b1 b2 : Bool), An 6 #[.agg #[.int .i64 p, .int .i64 s], .agg #[.int .i64 p', .int .i64 s']] (.tuple #[.int .i64 num, .int .i64 den, .bool ok]) ∧ An 7 #[.agg #[.int .i64 p, .int .i64 s], .agg #[.int .i64 p', .int .i64 s']] (.tuple #[.int .i64 num, .int .i64 den, .bool ok]) ∧ An 8 #[.agg #[.int .i64 p, .int .i64 s], .agg #[.int .i64 p', .int .i64 s']] (.tuple #[.int .i64 place, .int .i64 part, .bool ok]) ∧ An 9 #[.agg #[.int .i64 p, .int .i64 s], .agg #[.int .i64 p', .int .i64 s']] (.tuple #[.int .i64 place, .int .i64 part, .bool ok]) ∧
  An 10 #[.agg #[.int .i64 p, .int .i64 s]] (.bool b1) ∧ An 11 #[.agg #[.int .i64 p, .int .i64 s]] (.bool b1) ∧ An 10 #[.agg #[.int .i64 p', .int .i64 s']] (.bool b2) ∧ (ok = true → b1 = true ∧ FOk p s p' s' num den place part) ∧ (ok = false → b1 = true → b2 = true → FNo p s p' s')
/-- What a drawn list owes. -/
def LOwes (l : List S25) : Prop := ∃ (K : Nat) (rs : List (List Int)) (three : Bool) (cnt : Int) (txt : ByteArray), impl_AllMeetings.f l = some (rs, three) ∧ spec_AllMeetings.f K l = some (rs, three) ∧ laws_yRows.f K rs rs = some true ∧ AnL 16 l (.tuple #[.int .i64 cnt, .bool three]) ∧ AnL 17 l (.tuple #[.int .i64 cnt, .bool three]) ∧
  AnT 18 l (.tuple #[.string txt, .bool three]) ∧ AnL 19 l (.tuple #[.string txt, .bool three]) ∧ AnL 31 l (.bool three) ∧ AnL 32 l (.bool three) ∧ (three = true → FThree K l rs cnt txt)
/-- What a drawn walker and time owe. -/
def WOwes (q z top low : Int) : Prop := ∃ (at' of' : Int) (nine : Bool), An 21 #[.agg #[.int .i64 q, .int .i64 z], .int .i64 top, .int .i64 low] (.tuple #[.int .i64 at', .int .i64 of', .bool nine]) ∧ An 22 #[.agg #[.int .i64 q, .int .i64 z], .int .i64 top, .int .i64 low] (.tuple #[.int .i64 at', .int .i64 of', .bool nine]) ∧ (nine = true → FNine q z top low at' of')
/-- What two drawn walkers and a time owe. -/
def GOwes (p3 s3 p4 s4 m n : Int) : Prop := ∃ (gap wide : Int) (eleven : Bool), An 24 #[.agg #[.int .i64 p3, .int .i64 s3], .agg #[.int .i64 p4, .int .i64 s4], .int .i64 m, .int .i64 n] (.tuple #[.int .i64 gap, .int .i64 wide, .bool eleven]) ∧ An 25 #[.agg #[.int .i64 p3, .int .i64 s3], .agg #[.int .i64 p4, .int .i64 s4], .int .i64 m, .int .i64 n] (.tuple #[.int .i64 gap, .int .i64 wide, .bool eleven]) ∧ (eleven = true → FEleven p3 s3 p4 s4 m n gap wide)
/-- What a drawn text owes. -/
def POwes (word : ByteArray) : Prop := ∃ (K : Nat) (lp : List S25) (thirteen : Bool), (∀ W : World, T2 W → Calls Tryz.prog 27 #[.string word] W (PwPost lp thirteen W)) ∧ spec_ParseWalkers.f K word = some (lp, thirteen) ∧ laws_yWalkers.f K lp lp = some true ∧ (thirteen = true → AnT 18 lp (.tuple #[.string word, .bool true]))
end Go.Proofs.YtoideilmkcpilaaGreatDoor.OFnWalkersMeet
