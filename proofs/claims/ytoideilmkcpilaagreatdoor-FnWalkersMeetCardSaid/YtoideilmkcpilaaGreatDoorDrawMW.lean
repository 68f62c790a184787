/- The functions that draw walkers: each answers. -/
import Derived.Test.YtoideilmkcpilaaGreatDoorDrawT
import Derived.Deep.RegionWith
import Derived.Deep.RegionHeld3
import Derived.WalkKit
namespace Go.Proofs.YtoideilmkcpilaaGreatDoor.DrawP
open Go.RowKit Go.Proofs.YtoideilmkcpilaaGreatDoor.OFnWalkersMeet Go.Proofs.YtoideilmkcpilaaGreatDoorW.PrintWords Go.Proofs.YtoideilmkcpilaaGreatDoorW.PrintLast Go.Proofs.YtoideilmkcpilaaGreatDoorW.PrintMore
set_option linter.unusedVariables false
set_option linter.unusedSimpArgs false
/-- Two result boxes lie in the world, zero. -/
def Zb (w W : World) (T : TypeId) : Prop := W.heap[w.heap.size]? = some (.cells #[.int .i64 0, .int .i64 0] T (0, 0)) ∧ W.heap[w.heap.size + 1]? = some (.cells #[.int .i64 0, .int .i64 0] T (0, 0))
theorem Zb.keep {w W W' : World} {T : TypeId} (h : Zb w W T) (hk : qj W W' (w.heap.size + 2) none) : Zb w W' T :=
  ⟨(hk.2 _ (blk_lt h.1) (by omega) (by simp)).trans h.1, (hk.2 _ (blk_lt h.2) (by omega) (by simp)).trans h.2⟩
theorem two_boxes (w : World) (A : Option Addr) (c : Nat) (l : List Int) (T S : TypeId) :
    Below w.heap.size w (((w.alloc (.cells #[.int .i64 0, .int .i64 0] T)).alloc (.cells #[.int .i64 0, .int .i64 0] T)).alloc (.cells #[.slice A l.length c, .int .i64 0, .int .u64 0] S)) ∧ Zb w (((w.alloc (.cells #[.int .i64 0, .int .i64 0] T)).alloc (.cells #[.int .i64 0, .int .i64 0] T)).alloc (.cells #[.slice A l.length c, .int .i64 0, .int .u64 0] S)) T ∧
    (((w.alloc (.cells #[.int .i64 0, .int .i64 0] T)).alloc (.cells #[.int .i64 0, .int .i64 0] T)).alloc (.cells #[.slice A l.length c, .int .i64 0, .int .u64 0] S)).heap[w.heap.size + 2]? = some (.cells #[.slice A l.length c, .int .i64 0, .int .u64 0] S (0, 0)) := by
  have h1 := heap_alloc_new w (.cells #[.int .i64 0, .int .i64 0] T)
  have h2 := heap_alloc_new (w.alloc (.cells #[.int .i64 0, .int .i64 0] T)) (.cells #[.int .i64 0, .int .i64 0] T)
  have h3 := heap_alloc_new ((w.alloc (.cells #[.int .i64 0, .int .i64 0] T)).alloc (.cells #[.int .i64 0, .int .i64 0] T)) (.cells #[.slice A l.length c, .int .i64 0, .int .u64 0] S)
  rw [World.size_alloc] at h2
  rw [World.size_alloc, World.size_alloc] at h3
  exact ⟨qb (qb (qb (Below.refl _ _) _) _) _, ⟨qe (qe h1 _) _, qe h2 _⟩, h3⟩
theorem cur_box (w : World) (A : Option Addr) (c : Nat) (l : List Int) (S : TypeId) :
    Below w.heap.size w (w.alloc (.cells #[.slice A l.length c, .int .i64 0, .int .u64 0] S)) ∧ (w.alloc (.cells #[.slice A l.length c, .int .i64 0, .int .u64 0] S)).heap[w.heap.size]? = some (.cells #[.slice A l.length c, .int .i64 0, .int .u64 0] S (0, 0)) :=
  ⟨qb (Below.refl _ _) _, heap_alloc_new w _⟩
/-- What a drawn list of walkers holds. -/
def DrwList (w : World) (e : Ending) (w' : World) : Prop := ∃ (s : List S25) (A : Option Addr) (c : Nat), e = .returned (.slice A s.length c) ∧ s.length ≤ c ∧ Kd.C k25 w' A s.length s ∧ s.length ≤ 200 ∧ Below w.heap.size w w'
set_option maxHeartbeats 4000000 in
set_option maxRecDepth 100000 in
theorem drawAW (A : Option Addr) (c : Nat) (l : List Int) (hc8 : Code8 l) (w : World) (hr : Kd.C (Kd.int .u8) w A l.length l) :
    Calls Tryz.prog 41 #[.slice A l.length c] w (DrwList w) := by
  obtain ⟨s, at1, sd1, e1, p1, q1, hs⟩ := t_walkers l hc8 0 0 (by omega) (by omega)
  have E1 := jb.mk e1
  have HR := jb.mk hr
  have HS := jb.mk hs
  clear e1 p1 q1 hr hc8 hs
  go_enter Tryz.func41, Tryz.ntmps41
  go_wp2_with fail
  obtain ⟨b0, i0⟩ := cur_box w A c l 57
  have I0 : jg w _ w.heap.size l 0 0 := ⟨A, c, i0, by omega, HR.out⟩
  clear i0
  (refine (spec_l1Cur_walkers.calls 100 _ l 0 0 _ _ _ w _ I0 b0 E1.out).mono ?_)
  rintro e W2 ⟨v, rfl, R2, I2, B2, K2⟩
  obtain ⟨As, cs, rfl, hcs, C2⟩ := Kd.R_reads R2
  have C5 := jb.mk C2
  have B5 := jb.mk B2
  have H5 := jb.mk hcs
  clear R2 I2 B2 K2 C2 hcs I0 b0
  go_wp2_with fail
  refine bodyPost_ret (v := .slice As s.length cs) (by simp [results, Tryz.results41, go_sem]) rfl ⟨s, As, cs, rfl, H5.out, C5.out, HS.out, B5.out⟩
set_option maxHeartbeats 4000000 in
set_option maxRecDepth 100000 in
theorem drawAM (A : Option Addr) (c : Nat) (l : List Int) (hc8 : Code8 l) (w : World) (hr : Kd.C (Kd.int .u8) w A l.length l) :
    Calls Tryz.prog 13 #[.slice A l.length c] w (DrwList w) := by
  have H := jb.mk (drawAW A c l hc8 w hr)
  clear hr hc8
  go_enter Tryz.func13, Tryz.ntmps13
  go_wp2_with fail
  (refine H.out.mono ?_)
  rintro e W2 ⟨s, As, cs, rfl, h1, h2, h3, h4⟩
  have H2 := jb.mk (show s.length ≤ cs ∧ Kd.C k25 W2 As s.length s ∧ s.length ≤ 200 ∧ Below w.heap.size w W2 from ⟨h1, h2, h3, h4⟩)
  clear h1 h2 h3 h4
  go_wp2_with fail
  refine bodyPost_ret (v := .slice As s.length cs) (by simp [results, Tryz.results13, go_sem]) rfl ⟨s, As, cs, rfl, H2.out⟩
theorem far2S {W : World} {G b : Nat} {u v : Value} (h : W.cell? ⟨G, 0, none⟩ = some u ∧ W.cell? ⟨G, 1, none⟩ = some v) (hne : b ≠ G) (x y : Value) : ((W.setCell ⟨b, 0, none⟩ x).setCell ⟨b, 1, none⟩ y).cell? ⟨G, 0, none⟩ = some u ∧ ((W.setCell ⟨b, 0, none⟩ x).setCell ⟨b, 1, none⟩ y).cell? ⟨G, 1, none⟩ = some v :=
  ⟨(World.cell?_setCell_other _ _ _ _ (by intro e; simp only [Addr.mk.injEq] at e; omega)).trans ((World.cell?_setCell_other _ _ _ _ (by intro e; simp only [Addr.mk.injEq] at e; omega)).trans h.1), (World.cell?_setCell_other _ _ _ _ (by intro e; simp only [Addr.mk.injEq] at e; omega)).trans ((World.cell?_setCell_other _ _ _ _ (by intro e; simp only [Addr.mk.injEq] at e; omega)).trans h.2)⟩
/-- What a drawn pair of walkers holds. -/
def DrwPair (w : World) (e : Ending) (w' : World) : Prop := ∃ s0 s1 t0 t1 : Int, e = .returned (.tuple #[.agg #[.int .i64 s0, .int .i64 s1], .agg #[.int .i64 t0, .int .i64 t1]]) ∧ Below w.heap.size w w'
set_option maxHeartbeats 4000000 in
set_option maxRecDepth 100000 in
theorem drawMT (A : Option Addr) (c : Nat) (l : List Int) (hc8 : Code8 l) (w : World) (hr : Kd.C (Kd.int .u8) w A l.length l) :
    Calls Tryz.prog 5 #[.slice A l.length c] w (DrwPair w) := by
  obtain ⟨a1, b1, at1, sd1, e1, p1, q1⟩ := t_walker l hc8 0 0 (by omega) (by omega)
  obtain ⟨a2, b2, at2, sd2, e2, p2, q2⟩ := t_walker l hc8 at1 sd1 (by omega) (by omega)
  have E1 := jb.mk e1
  have E2 := jb.mk e2
  have HR := jb.mk hr
  clear e1 e2 p1 q1 p2 q2 hr hc8
  have hu25 := Tryz.underlying25
  go_enter Tryz.func5, Tryz.ntmps5
  go_wp2_with fail
  obtain ⟨b0, z0, i0⟩ := two_boxes w A c l 25 57
  have I0 : jg w _ (w.heap.size + 2) l 0 0 := ⟨A, c, i0, by omega, HR.out⟩
  clear i0
  (refine (spec_l1Cur_walker.calls _ l 0 0 _ _ _ _ w _ I0 b0 E1.out).mono ?_)
  rintro e W1 ⟨rfl, I1, B1, K1⟩
  have Z1 := z0.keep K1
  clear I0 b0 z0 K1
  go_wp2_with fail
  have I2 := I1.alloc (.cells #[.int .i64 a1, .int .i64 b1] 25)
  have B2 := qb B1 (.cells #[.int .i64 a1, .int .i64 b1] 25)
  have Z2 : Zb w (W1.alloc (.cells #[.int .i64 a1, .int .i64 b1] 25)) 25 := ⟨qe Z1.1 _, qe Z1.2 _⟩
  have y2 := heap_alloc_new W1 (.cells #[.int .i64 a1, .int .i64 b1] 25)
  have gl : w.heap.size + 2 < W1.heap.size := I1.lt
  clear I1 B1 Z1
  generalize W1.alloc (.cells #[.int .i64 a1, .int .i64 b1] 25) = W2 at *
  generalize W1.heap.size = G at *
  have d0 := qh y2 0
  have d1 := qh y2 1
  simp at d0 d1
  have Y2 := jb.mk y2
  have ZZ := jb.mk Z2
  clear y2 Z2
  go_region_held3 (fun w' => w'.cell? ⟨G, 0, none⟩ = some (.int .i64 a1) ∧ w'.cell? ⟨G, 1, none⟩ = some (.int .i64 b1))
    (first | exact ⟨d0, d1⟩ | assumption | exact ⟨qh Y3.out 0, qh Y3.out 1⟩ | exact far2S (by assumption) (by omega) _ _)
    (first | ((go_at_call 33; (with_reducible refine (spec_l1Cur_walker.calls _ l at1 sd1 _ _ _ _ w _ I2.drew (qc B2) E2.out).mono ?_); rintro e W3 ⟨rfl, I3, B3, K3⟩; have Y3 := jb.mk ((K3.2 _ (blk_lt Y2.out) (by omega) (by simp)).trans Y2.out); have Z3 := jb.mk (ZZ.out.keep K3); have B5 := jb.mk B3; clear I3 B3 K3; have cA0 := qh Z3.out.1 0; have cA1 := qh Z3.out.1 1; have cB0 := qh Z3.out.2 0; have cB1 := qh Z3.out.2 1; simp at cA0 cA1 cB0 cB1; have fA0 := qg Z3.out.1 0; have fA1 := qg Z3.out.1 1; have fB0 := qg Z3.out.2 0; have fB1 := qg Z3.out.2 1)))
  have y1 := blk_far (blk_far (blk_set (blk_set Z3.out.1 0 (.int .i64 a1)) 1 (.int .i64 b1)) (p := ⟨w.heap.size + 1, 0, none⟩) (by simp) (.int .i64 a2)) (p := ⟨w.heap.size + 1, 1, none⟩) (by simp) (.int .i64 b2)
  have y2 := blk_set (blk_set (blk_far (blk_far Z3.out.2 (p := ⟨w.heap.size, 0, none⟩) (by simp) (.int .i64 a1)) (p := ⟨w.heap.size, 1, none⟩) (by simp) (.int .i64 b1)) 0 (.int .i64 a2)) 1 (.int .i64 b2)
  have g0 := jb.mk (qh y1 0)
  have g1 := jb.mk (qh y1 1)
  have g2 := jb.mk (qh y2 0)
  have g3 := jb.mk (qh y2 1)
  clear y1 y2
  go_wp2_with fail
  have g0 := g0.out
  have g1 := g1.out
  have g2 := g2.out
  have g3 := g3.out
  simp at g0 g1 g2 g3
  refine bodyPost_ret (v := .tuple #[.agg #[.int .i64 a1, .int .i64 b1], .agg #[.int .i64 a2, .int .i64 b2]]) (by simp [results, Tryz.results5, go_sem, g0, g1, g2, g3]) rfl ⟨a1, b1, a2, b2, rfl, ?_⟩
  exact (((B5.out.setCell (Nat.le_refl _) _).setCell (Nat.le_refl _) _).setCell (by simp) _).setCell (by simp) _
theorem box_cur (w : World) (A : Option Addr) (c : Nat) (l : List Int) (T S : TypeId) :
    Below w.heap.size w ((w.alloc (.cells #[.int .i64 0, .int .i64 0] T)).alloc (.cells #[.slice A l.length c, .int .i64 0, .int .u64 0] S)) ∧
    ((w.alloc (.cells #[.int .i64 0, .int .i64 0] T)).alloc (.cells #[.slice A l.length c, .int .i64 0, .int .u64 0] S)).heap[w.heap.size]? = some (.cells #[.int .i64 0, .int .i64 0] T (0, 0)) ∧
    ((w.alloc (.cells #[.int .i64 0, .int .i64 0] T)).alloc (.cells #[.slice A l.length c, .int .i64 0, .int .u64 0] S)).heap[w.heap.size + 1]? = some (.cells #[.slice A l.length c, .int .i64 0, .int .u64 0] S (0, 0)) := by
  have h1 := heap_alloc_new w (.cells #[.int .i64 0, .int .i64 0] T)
  have h2 := heap_alloc_new (w.alloc (.cells #[.int .i64 0, .int .i64 0] T)) (.cells #[.slice A l.length c, .int .i64 0, .int .u64 0] S)
  rw [World.size_alloc] at h2
  exact ⟨qb (qb (Below.refl _ _) _) _, qe h1 _, h2⟩
/-- What a drawn walker and time hold. -/
def DrwWP (w : World) (e : Ending) (w' : World) : Prop := ∃ s0 s1 t0 t1 : Int, e = .returned (.tuple #[.agg #[.int .i64 s0, .int .i64 s1], .int .i64 t0, .int .i64 t1]) ∧ Below w.heap.size w w'
set_option maxHeartbeats 4000000 in
set_option maxRecDepth 100000 in
theorem drawWP (A : Option Addr) (c : Nat) (l : List Int) (hc8 : Code8 l) (w : World) (hr : Kd.C (Kd.int .u8) w A l.length l) :
    Calls Tryz.prog 20 #[.slice A l.length c] w (DrwWP w) := by
  obtain ⟨a1, b1, at1, sd1, e1, p1, q1⟩ := t_walker l hc8 0 0 (by omega) (by omega)
  obtain ⟨a2, b2, at2, sd2, e2, p2, q2⟩ := t_time2 l hc8 at1 sd1 (by omega) (by omega)
  have E1 := jb.mk e1
  have E2 := jb.mk e2
  have HR := jb.mk hr
  clear e1 e2 p1 q1 p2 q2 hr hc8
  have hu25 := Tryz.underlying25
  go_enter Tryz.func20, Tryz.ntmps20
  go_wp2_with fail
  obtain ⟨b0, z0, i0⟩ := box_cur w A c l 25 57
  have I0 : jg w _ (w.heap.size + 1) l 0 0 := ⟨A, c, i0, by omega, HR.out⟩
  clear i0
  (refine (spec_l1Cur_walker.calls _ l 0 0 _ _ _ _ w _ I0 b0 E1.out).mono ?_)
  rintro e W1 ⟨rfl, I1, B1, K1⟩
  have Z1 := (K1.2 _ (blk_lt z0) (by omega) (by simp)).trans z0
  clear I0 b0 z0 K1
  go_wp2_with fail
  have I2 := I1.alloc (.cells #[.int .i64 a1, .int .i64 b1] 25)
  have B2 := qb B1 (.cells #[.int .i64 a1, .int .i64 b1] 25)
  have Z2 := qe Z1 (.cells #[.int .i64 a1, .int .i64 b1] 25)
  have y2 := heap_alloc_new W1 (.cells #[.int .i64 a1, .int .i64 b1] 25)
  have gl : w.heap.size + 1 < W1.heap.size := I1.lt
  clear I1 B1 Z1
  generalize W1.alloc (.cells #[.int .i64 a1, .int .i64 b1] 25) = W2 at *
  generalize W1.heap.size = G at *
  (refine (spec_l1Cur_time2.calls _ l at1 sd1 _ _ _ _ w _ I2 B2 E2.out).mono ?_)
  rintro e W3 ⟨rfl, I3, B3, K3⟩
  have Y3 := (K3.2 _ (blk_lt y2) (by omega) (by simp)).trans y2
  have Z3 := (K3.2 _ (blk_lt Z2) (by omega) (by simp)).trans Z2
  have d0 := qh Y3 0
  have d1 := qh Y3 1
  have cA0 := qh Z3 0
  have cA1 := qh Z3 1
  have fA0 := qg Z3 0
  have fA1 := qg Z3 1
  have B5 := jb.mk B3
  have y1 := blk_set (blk_set Z3 0 (.int .i64 a1)) 1 (.int .i64 b1)
  have g0 := jb.mk (qh y1 0)
  have g1 := jb.mk (qh y1 1)
  clear I2 B2 Z2 y2 I3 B3 K3 Y3 Z3 y1
  simp at d0 d1 cA0 cA1
  go_wp2_with fail
  have g0 := g0.out
  have g1 := g1.out
  simp at g0 g1
  refine bodyPost_ret (v := .tuple #[.agg #[.int .i64 a1, .int .i64 b1], .int .i64 a2, .int .i64 b2]) (by simp [results, Tryz.results20, go_sem, g0, g1]) rfl ⟨a1, b1, a2, b2, rfl, ?_⟩
  exact (B5.out.setCell (Nat.le_refl _) _).setCell (Nat.le_refl _) _
end Go.Proofs.YtoideilmkcpilaaGreatDoor.DrawP
