/- impl.RingPlaces, walked by hand. -/
import Derived.Test.YtfaccdafldbjcaaGreatRpWalk
namespace Go.Proofs.YtfaccdafldbjcaaGreat.OFnWalkersRound
open Go.RowKit Go.Proofs.YtfaccdafldbjcaaGreatW.PrintWords Go.Proofs.YtfaccdafldbjcaaGreatW.PrintLast Go.Proofs.YtfaccdafldbjcaaGreatW.PrintMore
set_option linter.unusedVariables false
set_option linter.unusedSimpArgs false
/-- Two boxes that the call has made, and no more. -/
def Bz (w W : World) (p s p' s' : Int) : Prop := Below w.heap.size w W ∧ W.cell? ⟨w.heap.size, 0, none⟩ = some (.int .i64 p) ∧ W.cell? ⟨w.heap.size, 1, none⟩ = some (.int .i64 s) ∧ W.cell? ⟨w.heap.size + 1, 0, none⟩ = some (.int .i64 p') ∧ W.cell? ⟨w.heap.size + 1, 1, none⟩ = some (.int .i64 s')
theorem Bz.start (w : World) (p s p' s' : Int) (t : Nat) : Bz w ((w.alloc (.cells #[.int .i64 p, .int .i64 s] t)).alloc (.cells #[.int .i64 p', .int .i64 s'] t)) p s p' s' := by
  refine ⟨qb (qb (Below.refl w.heap.size w) _) _, ?_, ?_, ?_, ?_⟩
  · rw [World.cell?_alloc2_first]; rfl
  · rw [World.cell?_alloc2_first]; rfl
  · rw [World.cell?_alloc2_new]; rfl
  · rw [World.cell?_alloc2_new]; rfl
theorem Bz.step {w W W' : World} {p s p' s' : Int} (h : Bz w W p s p' s') (hb : Below W.heap.size W W') : Bz w W' p s p' s' := by
  have kc : ∀ p v, W.cell? p = some v → W'.cell? p = some v := fun p v h => (hb.cell (World.block_lt_of_cell? W _ h)).trans h
  exact ⟨h.1.trans (hb.mono h.1.size), kc _ _ h.2.1, kc _ _ h.2.2.1, kc _ _ h.2.2.2.1, kc _ _ h.2.2.2.2⟩
set_option maxHeartbeats 8000000 in
set_option maxRecDepth 100000 in
theorem rpP.yes (K : Nat) (a0 p s p' s' : Int) (rs : List (List Int)) (w : World) (h50 : impl_isRing.f a0 = some true) (h1 : impl_IsWalker.f p s = some true) (h2 : impl_IsWalker.f p' s' = some true) (hne : ¬ s = s')
    (h71 : ∀ W : World, Calls Tryz.prog 33 #[.int .i64 a0, .agg #[.int .i64 p, .int .i64 s], .agg #[.int .i64 p', .int .i64 s']] W fun e w' => ∃ v, e = .returned v ∧ RRx W w' v rs) :
    Calls Tryz.prog 6 #[.int .i64 a0, .agg #[.int .i64 p, .int .i64 s], .agg #[.int .i64 p', .int .i64 s']] w fun e w' => ∃ v, e = .returned (.tuple #[v, .bool true]) ∧ RRx w w' v rs := by
  have H50 := jb.mk h50
  have H1 := jb.mk h1
  have H2 := jb.mk h2
  have H71 := jb.mk h71
  have hu25 := Tryz.underlying25
  have dne : decide (s = s') = false := decide_eq_false hne
  have BX0 : jb (Bz w ((w.alloc (.cells #[.int .i64 p, .int .i64 s] 25)).alloc (.cells #[.int .i64 p', .int .i64 s'] 25)) p s p' s') := ⟨Bz.start w p s p' s' 25⟩
  clear h50 h1 h2 h71
  go_enter Tryz.func6, Tryz.ntmps6
  go_wp2_with (first
    | (go_at_call 31; (with_reducible refine (impl_isRing.calls a0 true _ H50.out).mono ?_); rintro e W1 ⟨rfl, hd⟩; have hb := (show Below _ _ W1 from by first | exact hd.below | exact hd); have X1 := jb.mk (BX0.out.step hb); obtain ⟨-, c0, c1, c2, c3⟩ := X1.out; clear hd hb BX0)
    | (go_at_call 32; clear c0 c1 c2 c3; (with_reducible refine (impl_IsWalker.calls p s true _ H1.out).mono ?_); rintro e W2 ⟨rfl, hd⟩; have hb := (show Below _ _ W2 from by first | exact hd.below | exact hd); have X2 := jb.mk (X1.out.step hb); obtain ⟨-, d0, d1, d2, d3⟩ := X2.out; clear hd hb X1)
    | (go_at_call 32; clear d0 d1 d2 d3; (with_reducible refine (impl_IsWalker.calls p' s' true _ H2.out).mono ?_); rintro e W3 ⟨rfl, hd⟩; have hb := (show Below _ _ W3 from by first | exact hd.below | exact hd); have X3 := jb.mk (X2.out.step hb); obtain ⟨-, e0, e1, e2, e3⟩ := X3.out; clear hd hb X2)
    | (go_at_call 33; (with_reducible refine (H71.out _).mono ?_); rintro e W4 ⟨v, rfl, hR⟩; have R4 := jb.mk (RRx.lower X3.out.1 hR); clear hR))
  go_ret2
  exact ⟨_, rfl, R4.out⟩
set_option maxHeartbeats 8000000 in
set_option maxRecDepth 100000 in
theorem rpP.no1 (a0 p s p' s' : Int) (w : World) (h50 : impl_isRing.f a0 = some false) :
    Calls Tryz.prog 6 #[.int .i64 a0, .agg #[.int .i64 p, .int .i64 s], .agg #[.int .i64 p', .int .i64 s']] w fun e w' => ∃ v, e = .returned (.tuple #[v, .bool false]) ∧ RRx w w' v [] := by
  have H50 := jb.mk h50
  have hu25 := Tryz.underlying25
  have BX0 : jb (Bz w ((w.alloc (.cells #[.int .i64 p, .int .i64 s] 25)).alloc (.cells #[.int .i64 p', .int .i64 s'] 25)) p s p' s') := ⟨Bz.start w p s p' s' 25⟩
  clear h50
  go_enter Tryz.func6, Tryz.ntmps6
  go_wp2_with (first
    | (go_at_call 31; (with_reducible refine (impl_isRing.calls a0 false _ H50.out).mono ?_); rintro e W1 ⟨rfl, hd⟩; have hb := (show Below _ _ W1 from by first | exact hd.below | exact hd); have X1 := jb.mk (BX0.out.step hb); obtain ⟨-, c0, c1, c2, c3⟩ := X1.out; clear hd hb BX0)
    | (go_at_call 32; clear c0 c1 c2 c3; (with_reducible refine (impl_IsWalker.calls p s true _ H1.out).mono ?_); rintro e W2 ⟨rfl, hd⟩; have hb := (show Below _ _ W2 from by first | exact hd.below | exact hd); have X2 := jb.mk (X1.out.step hb); obtain ⟨-, d0, d1, d2, d3⟩ := X2.out; clear hd hb X1)
    | (go_at_call 32; clear d0 d1 d2 d3; (with_reducible refine (impl_IsWalker.calls p' s' true _ H2.out).mono ?_); rintro e W3 ⟨rfl, hd⟩; have hb := (show Below _ _ W3 from by first | exact hd.below | exact hd); have X3 := jb.mk (X2.out.step hb); obtain ⟨-, e0, e1, e2, e3⟩ := X3.out; clear hd hb X2)
    | (go_at_call 33; (with_reducible refine (H71.out _).mono ?_); rintro e W4 ⟨v, rfl, hR⟩; have R4 := jb.mk (RRx.lower X3.out.1 hR); clear hR))
  go_ret2
  exact ⟨_, rfl, (RRx.start w).step X1.out.1⟩
set_option maxHeartbeats 8000000 in
set_option maxRecDepth 100000 in
theorem rpP.no2 (a0 p s p' s' : Int) (w : World) (h50 : impl_isRing.f a0 = some true) (h1 : impl_IsWalker.f p s = some false) :
    Calls Tryz.prog 6 #[.int .i64 a0, .agg #[.int .i64 p, .int .i64 s], .agg #[.int .i64 p', .int .i64 s']] w fun e w' => ∃ v, e = .returned (.tuple #[v, .bool false]) ∧ RRx w w' v [] := by
  have H50 := jb.mk h50
  have H1 := jb.mk h1
  have hu25 := Tryz.underlying25
  have BX0 : jb (Bz w ((w.alloc (.cells #[.int .i64 p, .int .i64 s] 25)).alloc (.cells #[.int .i64 p', .int .i64 s'] 25)) p s p' s') := ⟨Bz.start w p s p' s' 25⟩
  clear h50 h1
  go_enter Tryz.func6, Tryz.ntmps6
  go_wp2_with (first
    | (go_at_call 31; (with_reducible refine (impl_isRing.calls a0 true _ H50.out).mono ?_); rintro e W1 ⟨rfl, hd⟩; have hb := (show Below _ _ W1 from by first | exact hd.below | exact hd); have X1 := jb.mk (BX0.out.step hb); obtain ⟨-, c0, c1, c2, c3⟩ := X1.out; clear hd hb BX0)
    | (go_at_call 32; clear c0 c1 c2 c3; (with_reducible refine (impl_IsWalker.calls p s false _ H1.out).mono ?_); rintro e W2 ⟨rfl, hd⟩; have hb := (show Below _ _ W2 from by first | exact hd.below | exact hd); have X2 := jb.mk (X1.out.step hb); obtain ⟨-, d0, d1, d2, d3⟩ := X2.out; clear hd hb X1)
    | (go_at_call 32; clear d0 d1 d2 d3; (with_reducible refine (impl_IsWalker.calls p' s' true _ H2.out).mono ?_); rintro e W3 ⟨rfl, hd⟩; have hb := (show Below _ _ W3 from by first | exact hd.below | exact hd); have X3 := jb.mk (X2.out.step hb); obtain ⟨-, e0, e1, e2, e3⟩ := X3.out; clear hd hb X2)
    | (go_at_call 33; (with_reducible refine (H71.out _).mono ?_); rintro e W4 ⟨v, rfl, hR⟩; have R4 := jb.mk (RRx.lower X3.out.1 hR); clear hR))
  go_ret2
  exact ⟨_, rfl, (RRx.start w).step X2.out.1⟩
set_option maxHeartbeats 8000000 in
set_option maxRecDepth 100000 in
theorem rpP.no3 (a0 p s p' s' : Int) (w : World) (h50 : impl_isRing.f a0 = some true) (h1 : impl_IsWalker.f p s = some true) (h2 : impl_IsWalker.f p' s' = some false) :
    Calls Tryz.prog 6 #[.int .i64 a0, .agg #[.int .i64 p, .int .i64 s], .agg #[.int .i64 p', .int .i64 s']] w fun e w' => ∃ v, e = .returned (.tuple #[v, .bool false]) ∧ RRx w w' v [] := by
  have H50 := jb.mk h50
  have H1 := jb.mk h1
  have H2 := jb.mk h2
  have hu25 := Tryz.underlying25
  have BX0 : jb (Bz w ((w.alloc (.cells #[.int .i64 p, .int .i64 s] 25)).alloc (.cells #[.int .i64 p', .int .i64 s'] 25)) p s p' s') := ⟨Bz.start w p s p' s' 25⟩
  clear h50 h1 h2
  go_enter Tryz.func6, Tryz.ntmps6
  go_wp2_with (first
    | (go_at_call 31; (with_reducible refine (impl_isRing.calls a0 true _ H50.out).mono ?_); rintro e W1 ⟨rfl, hd⟩; have hb := (show Below _ _ W1 from by first | exact hd.below | exact hd); have X1 := jb.mk (BX0.out.step hb); obtain ⟨-, c0, c1, c2, c3⟩ := X1.out; clear hd hb BX0)
    | (go_at_call 32; clear c0 c1 c2 c3; (with_reducible refine (impl_IsWalker.calls p s true _ H1.out).mono ?_); rintro e W2 ⟨rfl, hd⟩; have hb := (show Below _ _ W2 from by first | exact hd.below | exact hd); have X2 := jb.mk (X1.out.step hb); obtain ⟨-, d0, d1, d2, d3⟩ := X2.out; clear hd hb X1)
    | (go_at_call 32; clear d0 d1 d2 d3; (with_reducible refine (impl_IsWalker.calls p' s' false _ H2.out).mono ?_); rintro e W3 ⟨rfl, hd⟩; have hb := (show Below _ _ W3 from by first | exact hd.below | exact hd); have X3 := jb.mk (X2.out.step hb); obtain ⟨-, e0, e1, e2, e3⟩ := X3.out; clear hd hb X2)
    | (go_at_call 33; (with_reducible refine (H71.out _).mono ?_); rintro e W4 ⟨v, rfl, hR⟩; have R4 := jb.mk (RRx.lower X3.out.1 hR); clear hR))
  go_ret2
  exact ⟨_, rfl, (RRx.start w).step X3.out.1⟩
set_option maxHeartbeats 8000000 in
set_option maxRecDepth 100000 in
theorem rpP.no4 (a0 p s p' : Int) (w : World) (h50 : impl_isRing.f a0 = some true) (h1 : impl_IsWalker.f p s = some true) (h2 : impl_IsWalker.f p' s = some true) :
    Calls Tryz.prog 6 #[.int .i64 a0, .agg #[.int .i64 p, .int .i64 s], .agg #[.int .i64 p', .int .i64 s]] w fun e w' => ∃ v, e = .returned (.tuple #[v, .bool false]) ∧ RRx w w' v [] := by
  have H50 := jb.mk h50
  have H1 := jb.mk h1
  have H2 := jb.mk h2
  have hu25 := Tryz.underlying25
  have BX0 : jb (Bz w ((w.alloc (.cells #[.int .i64 p, .int .i64 s] 25)).alloc (.cells #[.int .i64 p', .int .i64 s] 25)) p s p' s) := ⟨Bz.start w p s p' s 25⟩
  clear h50 h1 h2
  go_enter Tryz.func6, Tryz.ntmps6
  go_wp2_with (first
    | (go_at_call 31; (with_reducible refine (impl_isRing.calls a0 true _ H50.out).mono ?_); rintro e W1 ⟨rfl, hd⟩; have hb := (show Below _ _ W1 from by first | exact hd.below | exact hd); have X1 := jb.mk (BX0.out.step hb); obtain ⟨-, c0, c1, c2, c3⟩ := X1.out; clear hd hb BX0)
    | (go_at_call 32; clear c0 c1 c2 c3; (with_reducible refine (impl_IsWalker.calls p s true _ H1.out).mono ?_); rintro e W2 ⟨rfl, hd⟩; have hb := (show Below _ _ W2 from by first | exact hd.below | exact hd); have X2 := jb.mk (X1.out.step hb); obtain ⟨-, d0, d1, d2, d3⟩ := X2.out; clear hd hb X1)
    | (go_at_call 32; clear d0 d1 d2 d3; (with_reducible refine (impl_IsWalker.calls p' s true _ H2.out).mono ?_); rintro e W3 ⟨rfl, hd⟩; have hb := (show Below _ _ W3 from by first | exact hd.below | exact hd); have X3 := jb.mk (X2.out.step hb); obtain ⟨-, e0, e1, e2, e3⟩ := X3.out; clear hd hb X2)
    | (go_at_call 33; (with_reducible refine (H71.out _).mono ?_); rintro e W4 ⟨v, rfl, hR⟩; have R4 := jb.mk (RRx.lower X3.out.1 hR); clear hR))
  go_ret2
  exact ⟨_, rfl, (RRx.start w).step X3.out.1⟩
end Go.Proofs.YtfaccdafldbjcaaGreat.OFnWalkersRound
