/- What the walk of the law FnWalkersRound speaks of. -/
import Derived.Test.YtfaccdafldbjcaaGreatOFnWalkersRoundx0
import Derived.Test.YtfaccdafldbjcaaGreatOFnWalkersRoundx1
import Derived.Test.YtfaccdafldbjcaaGreatOFnWalkersRoundx2
import Derived.Test.YtfaccdafldbjcaaGreatOFnWalkersRoundx3
import Derived.Test.YtfaccdafldbjcaaGreatOFnWalkersRoundx4
import Derived.Test.YtfaccdafldbjcaaGreatOFnWalkersRoundx5
import Derived.Test.YtfaccdafldbjcaaGreatOFnWalkersRoundx6
import Derived.Test.YtfaccdafldbjcaaGreatOFnWalkersRoundx7
import Derived.Test.YtfaccdafldbjcaaGreatOFnWalkersRoundx8
import Derived.Test.YtfaccdafldbjcaaGreatOFnWalkersRoundx9
import Derived.Test.YtfaccdafldbjcaaGreatOFnWalkersRoundx10
import Derived.Test.YtfaccdafldbjcaaGreatOFnWalkersRoundx11
import Derived.Test.YtfaccdafldbjcaaGreatOFnWalkersRoundx12
import Derived.Test.YtfaccdafldbjcaaGreatOFnWalkersRoundx13
import Derived.Test.YtfaccdafldbjcaaGreatRoundRS
import Derived.Test.YtfaccdafldbjcaaGreatDrawR
import Derived.Deep.DeepCutAuto
import Derived.Deep.LoopGhost
import Derived.Deep.RegionHeld3
import Derived.BigQuiet
import Derived.WalkKit
namespace Go.Proofs.YtfaccdafldbjcaaGreat.OFnWalkersRound
open Go.RowKit Go.Proofs.YtfaccdafldbjcaaGreatW.PrintWords Go.Proofs.YtfaccdafldbjcaaGreatW.PrintLast Go.Proofs.YtfaccdafldbjcaaGreatW.PrintMore
set_option linter.unusedVariables false
set_option linter.unusedSimpArgs false
/-- In every world the call answers v, and lays blocks at most. -/
@[reducible] def An (g : Nat) (args : Array Value) (v : Value) : Prop := ∀ W : World, Calls Tryz.prog g args W fun e w' => e = .returned v ∧ Below W.heap.size W w'
/-- The boxes of two walkers. -/
@[reducible] def B2 (v : World) (p s p' s' : Int) (W : World) : Prop := Below v.heap.size v W ∧ W.cell? ⟨v.heap.size, 0, none⟩ = some (.int .i64 p) ∧ W.cell? ⟨v.heap.size, 1, none⟩ = some (.int .i64 s) ∧ W.cell? ⟨v.heap.size + 1, 0, none⟩ = some (.int .i64 p') ∧ W.cell? ⟨v.heap.size + 1, 1, none⟩ = some (.int .i64 s')
theorem B2.step {v W W' : World} {p s p' s' : Int} (h : B2 v p s p' s' W) (hb : Below W.heap.size W W') : B2 v p s p' s' W' := by
  have kc : ∀ p v, W.cell? p = some v → W'.cell? p = some v := fun p v h => (hb.cell (World.block_lt_of_cell? W _ h)).trans h
  obtain ⟨h0, h1, h2, h3, h4⟩ := h
  exact ⟨h0.trans (hb.mono h0.size), kc _ _ h1, kc _ _ h2, kc _ _ h3, kc _ _ h4⟩
theorem B2.start (W : World) (a b c d : Int) (t : TypeId) : B2 W a b c d ((W.alloc (.cells #[.int .i64 a, .int .i64 b] t)).alloc (.cells #[.int .i64 c, .int .i64 d] t)) := by
  have a1 := heap_alloc_new W (.cells #[.int .i64 a, .int .i64 b] t)
  have a2 := heap_alloc_new (W.alloc (.cells #[.int .i64 a, .int .i64 b] t)) (.cells #[.int .i64 c, .int .i64 d] t)
  simp only [World.size_alloc] at a2
  have b1 := qe a1 (.cells #[.int .i64 c, .int .i64 d] t)
  exact ⟨qb (qb (Below.refl W.heap.size W) _) _, (qh b1 0).trans rfl, (qh b1 1).trans rfl, (qh a2 0).trans rfl, (qh a2 1).trans rfl⟩
/-- Walker i of a list, in every world behind. -/
theorem wAtR {W0 : World} {A : Option Addr} {l : List S25} (h : Kd.C k25 W0 A l.length l) (i : Nat) (hi : i < l.length) : ∃ ad, A = some ad ∧ ∀ W, Below W0.heap.size W0 W → W.cell? (ad.add (i * 2)) = some (.int .i64 (l.getD i z25).f0) ∧ W.cell? ⟨(ad.add (i * 2)).block, (ad.add (i * 2)).off + 1, none⟩ = some (.int .i64 (l.getD i z25).f1) := by
  obtain ⟨ad, e, c0, c1⟩ := at_T25 h (i : Int) (by omega) (by omega)
  have e2 : je l (i : Int) = l.getD i z25 := by unfold je; simp
  rw [e2, show ((i : Int)).toNat = i by omega] at c0 c1
  exact ⟨ad, e, fun W hb => ⟨(hb.cell (World.block_lt_of_cell? W0 _ c0)).trans c0, (hb.cell (World.block_lt_of_cell? W0 _ c1)).trans c1⟩⟩
/-- Number i of a list, in every world behind. -/
theorem iAtR {W0 : World} {A : Option Addr} {l : List Int} (h : Kd.C (Kd.int .i64) W0 A l.length l) (i : Nat) (hi : i < l.length) : ∃ ad, A = some ad ∧ ∀ W, Below W0.heap.size W0 W → W.cell? (ad.add i) = some (.int .i64 (l.getD i 0)) := by
  obtain ⟨ad, c, e, hl, hk, hc⟩ := Kd.C_get h (0 : Int) (i : Int) (by omega) (by omega)
  refine ⟨ad, e, fun W hb => ?_⟩
  have hk' : c = [.int .i64 (l.getD (i : Int).toNat 0)] := hk
  subst hk'
  have := hc 0 _ rfl
  rw [show ((i : Int)).toNat * (Kd.int .i64).sz + 0 = i by show (i : Int).toNat * 1 + 0 = i; omega, show ((i : Int)).toNat = i by omega] at this
  exact (hb.cell (World.block_lt_of_cell? W0 _ this)).trans this
/-- A pair of numbers in lowest terms: the test only reads. -/
theorem yLq (K : Nat) (x y : Int) (h : laws_yLow.f K x y = some true) (W : World) : Calls Tryz.prog 13 #[.int .i64 x, .int .i64 y] W fun e w' => e = .returned (.bool true) ∧ ∃ m, w' = W.drewN m :=
  (laws_yLow.calls K x y true W h).mono fun e w' h => ⟨h.1, h.2.out⟩
/-- What the test behind a meeting around a ring owes. -/
def OneOk (K : Nat) (a p s p' s' num den : Int) : Prop :=
  laws_yLow.f K num den = some true ∧ 0 ≤ num ∧ 1 ≤ wrap64 (a * den) ∧ Int.tmod (wrap64 (wrap64 (wrap64 (p - p') * den) + wrap64 (wrap64 (s - s') * num))) (wrap64 (a * den)) = 0
/-- What the test of row i of the places owes. -/
def RowOk (K : Nat) (a : Int) (rs : List (List Int)) (i : Nat) : Prop :=
  ∃ r0 r1 : Int, (rs.getD i []).getD 0 0 = r0 ∧ (rs.getD i []).getD 1 0 = r1 ∧ laws_yLow.f K r0 r1 = some true ∧ 0 ≤ r0 ∧ r0 < wrap64 (a * r1) ∧
    (0 < i → ∃ q0 q1 : Int, (rs.getD (i - 1) []).getD 0 0 = q0 ∧ (rs.getD (i - 1) []).getD 1 0 = q1 ∧ wrap64 (q0 * r1) < wrap64 (r0 * q1))
/-- What the test of row i for the first meeting's place owes. -/
def FndOk (a p s num den : Int) (rs : List (List Int)) (fd : Nat → Bool) (i : Nat) : Prop :=
  ∃ r0 r1 : Int, (rs.getD i []).getD 0 0 = r0 ∧ (rs.getD i []).getD 1 0 = r1 ∧ 1 ≤ wrap64 (wrap64 (a * den) * r1) ∧
    (fd (i + 1) = (fd i || decide (Int.tmod (wrap64 (wrap64 (wrap64 (wrap64 (p * den) + wrap64 (s * num)) * r1) - wrap64 (r0 * den))) (wrap64 (wrap64 (a * den) * r1)) = 0)))
def OkOk (K : Nat) (a p s p' s' num den gap part : Int) (rs : List (List Int)) : Prop :=
  laws_yLow.f K gap part = some true ∧ 1 ≤ rs.length ∧ rs.length ≤ 1000 ∧ wrap64 (num * part) < wrap64 (gap * den) ∧
  (∃ sp : Int, sp = (if wrap64 (s - s') < 0 then wrap64 (-(wrap64 (s - s'))) else wrap64 (s - s')) ∧ wrap64 (gap * sp) = wrap64 (a * part) ∧ Int.tmod sp (rs.length : Int) = 0) ∧
  (∀ i, i < rs.length → RowOk K a rs i) ∧ ∃ fd : Nat → Bool, fd 0 = false ∧ fd rs.length = true ∧ ∀ i, i < rs.length → FndOk a p s num den rs fd i
/-- What a drawn ring and two walkers owe. -/
def ROwes (a p s p' s' : Int) : Prop := ∃ (K : Nat) (rs : List (List Int)) (num den gap part : Int) (ok one : Bool),
  (∀ W : World, Calls Tryz.prog 6 #[.int .i64 a, .agg #[.int .i64 p, .int .i64 s], .agg #[.int .i64 p', .int .i64 s']] W fun e w' => ∃ v, e = .returned (.tuple #[v, .bool ok]) ∧ RRx W w' v rs) ∧
  spec_RingPlaces.f K a p s p' s' = some (rs, ok) ∧
  An 8 #[.int .i64 a, .agg #[.int .i64 p, .int .i64 s], .agg #[.int .i64 p', .int .i64 s']] (.tuple #[.int .i64 num, .int .i64 den, .bool one]) ∧ An 9 #[.int .i64 a, .agg #[.int .i64 p, .int .i64 s], .agg #[.int .i64 p', .int .i64 s']] (.tuple #[.int .i64 num, .int .i64 den, .bool one]) ∧
  An 10 #[.int .i64 a, .agg #[.int .i64 p, .int .i64 s], .agg #[.int .i64 p', .int .i64 s']] (.tuple #[.int .i64 gap, .int .i64 part, .bool ok]) ∧ An 11 #[.int .i64 a, .agg #[.int .i64 p, .int .i64 s], .agg #[.int .i64 p', .int .i64 s']] (.tuple #[.int .i64 gap, .int .i64 part, .bool ok]) ∧
  laws_yRows.f K rs rs = some true ∧ (ok = true → one = true) ∧ (one = true → OneOk K a p s p' s' num den) ∧ (ok = true → OkOk K a p s p' s' num den gap part rs)
/-- What a drawn ring, two walkers and a time owe. -/
def COwes (a p s p' s' t : Int) : Prop := ∃ (count : Int) (five : Bool),
  An 15 #[.int .i64 a, .agg #[.int .i64 p, .int .i64 s], .agg #[.int .i64 p', .int .i64 s'], .int .i64 t] (.tuple #[.int .i64 count, .bool five]) ∧ An 16 #[.int .i64 a, .agg #[.int .i64 p, .int .i64 s], .agg #[.int .i64 p', .int .i64 s'], .int .i64 t] (.tuple #[.int .i64 count, .bool five]) ∧
  (five = true → ∃ num den gap part : Int, An 8 #[.int .i64 a, .agg #[.int .i64 p, .int .i64 s], .agg #[.int .i64 p', .int .i64 s']] (.tuple #[.int .i64 num, .int .i64 den, .bool true]) ∧ An 10 #[.int .i64 a, .agg #[.int .i64 p, .int .i64 s], .agg #[.int .i64 p', .int .i64 s']] (.tuple #[.int .i64 gap, .int .i64 part, .bool true]) ∧
    0 ≤ count ∧ (count = 0 ↔ wrap64 (t * den) < num) ∧ (0 < count →
      wrap64 (wrap64 (num * part) + wrap64 (wrap64 (wrap64 (count - 1) * gap) * den)) ≤ wrap64 (wrap64 (t * den) * part) ∧ wrap64 (wrap64 (t * den) * part) < wrap64 (wrap64 (num * part) + wrap64 (wrap64 (count * gap) * den))))
/-- Where walker x of a list is. -/
def plW (l : List S25) (m n x : Int) : Int := wrap64 (wrap64 ((l.getD x.toNat z25).f0 * n) + wrap64 ((l.getD x.toNat z25).f1 * m))
/-- What a drawn list and a time owe. -/
def WOwes (l : List S25) (m n : Int) : Prop := ∃ (K : Nat) (od : List Int) (seven : Bool),
  impl_WalkersAt.f l m n = some (od, seven) ∧ spec_WalkersAt.f K l m n = some (od, seven) ∧ laws_ySame.f K od od = some true ∧
  (seven = true → laws_yOnce.f K od (l.length : Int) = some true ∧ od.length ≤ 1000 ∧ (∀ i, i < od.length → 0 ≤ od.getD i 0 ∧ od.getD i 0 < (l.length : Int)) ∧
    ∀ i, 1 ≤ i → i < od.length → ¬ plW l m n (od.getD i 0) < plW l m n (od.getD (i - 1) 0) ∧ (plW l m n (od.getD (i - 1) 0) = plW l m n (od.getD i 0) → od.getD (i - 1) 0 < od.getD i 0))
/-- What a drawn list owes. -/
def GOwes (g : List S25) : Prop := ∃ (K : Nat) (ld la : List Int) (nine : Bool),
  impl_LeadersOf.f K g = some (ld, nine) ∧ spec_LeadersOf.f K g = some (ld, nine) ∧ laws_ySame.f K ld ld = some true ∧ impl_LastOrder.f g = some (la, nine) ∧ spec_LastOrder.f K g = some (la, nine) ∧ laws_ySame.f K la la = some true ∧
  (nine = true → laws_yOnce.f K la (g.length : Int) = some true ∧ 1 ≤ ld.length ∧ ld.length ≤ 1000 ∧ 1 ≤ la.length ∧ la.length ≤ 1000 ∧ (∀ i, i < ld.length → 0 ≤ ld.getD i 0 ∧ ld.getD i 0 < (g.length : Int)) ∧ (∀ i, i < la.length → 0 ≤ la.getD i 0 ∧ la.getD i 0 < (g.length : Int)) ∧
    (∀ i, 1 ≤ i → i < ld.length → (g.getD (ld.getD (i - 1) 0).toNat z25).f1 < (g.getD (ld.getD i 0).toNat z25).f1) ∧
    (∀ i, i < g.length → (g.getD i z25).f1 ≤ (g.getD (ld.getD (ld.length - 1) 0).toNat z25).f1 ∧ (g.getD i z25).f0 ≤ (g.getD (ld.getD 0 0).toNat z25).f0) ∧
    g.getD (la.getD (la.length - 1) 0).toNat z25 = g.getD (ld.getD (ld.length - 1) 0).toNat z25)
/-- What a drawn ring and list owe. -/
def AOwes (a : Int) (l : List S25) : Prop := ∃ (K : Nat) (top low : Int) (on : Bool),
  impl_AllAtStart.f K a l = some (top, low, on) ∧ spec_AllAtStart.f K a l = some (top, low, on) ∧
  (on = true → laws_yLow.f K top low = some true ∧ 1 ≤ top ∧ 1 ≤ wrap64 (a * low) ∧ ∀ i, i < l.length → Int.tmod (wrap64 ((l.getD i z25).f1 * top)) (wrap64 (a * low)) = 0)
end Go.Proofs.YtfaccdafldbjcaaGreat.OFnWalkersRound
