/- The functions that draw walkers: each answers. -/
import Derived.Test.YtfaccdafldbjcaaGreatDrawT
import Derived.Deep.RegionWith
import Derived.Deep.RegionHeld3
import Derived.WalkKit
namespace Go.Proofs.YtfaccdafldbjcaaGreat.DrawP
open Go.RowKit Go.Proofs.YtfaccdafldbjcaaGreat.OFnWalkersRound Go.Proofs.YtfaccdafldbjcaaGreatW.PrintWords Go.Proofs.YtfaccdafldbjcaaGreatW.PrintLast Go.Proofs.YtfaccdafldbjcaaGreatW.PrintMore
set_option linter.unusedVariables false
set_option linter.unusedSimpArgs false
/-- Two result boxes lie in the world, zero. -/
def Zb (w W : World) (T : TypeId) : Prop := W.heap[w.heap.size]? = some (.cells #[.int .i64 0, .int .i64 0] T (0, 0)) ∧ W.heap[w.heap.size + 1]? = some (.cells #[.int .i64 0, .int .i64 0] T (0, 0))
theorem Zb.keep {w W W' : World} {T : TypeId} (h : Zb w W T) (hk : qj W W' (w.heap.size + 2) none) : Zb w W' T :=
  ⟨(hk.2 _ (blk_lt h.1) (by omega) (by simp)).trans h.1, (hk.2 _ (blk_lt h.2) (by omega) (by simp)).trans h.2⟩
theorem two_boxes (w : World) (A : Option Addr) (c : Nat) (l : List Int) (T S : TypeId) :
    Below w.heap.size w (((w.alloc (.cells #[.int .i64 0, .int .i64 0] T)).alloc (.cells #[.int .i64 0, .int .i64 0] T)).alloc (.cells #[.slice A l.length c, .int .i64 0, .int .u64 0] S)) ∧ Zb w (((w.alloc (.cells #[.int .i64 0, .int .i64 0] T)).alloc (.cells #[.int .i64 0, .int .i64 0] T)).alloc (.cells #[.slice A l.length c, .int .i64 0, .int .u64 0] S)) T ∧
    (((w.alloc (.cells #[.int .i64 0, .int .i64 0] T)).alloc (.cells #[.int .i64 0, .int .i64 0] T)).alloc (.cells #[.slice A l.length c, .int .i64 0, .int .u64 0] S)).heap[w.heap.size + 2]? = some (.cells #[.slice A l.length c, .int .i64 0, .int .u64 0] S (0, 0)) := by
  have h1 := heap_alloc_new w (.cells #[.int .i64 0, .int .i64 0] T)
  have h2 := heap_alloc_new (w.alloc (.cells #[.int .i64 0, .int .i64 0] T)) (.cells #[.int .i64 0, .int .i64 0] T)
  have h3 := heap_alloc_new ((w.alloc (.cells #[.int .i64 0, .int .i64 0] T)).alloc (.cells #[.int .i64 0, .int .i64 0] T)) (.cells #[.slice A l.length c, .int .i64 0, .int .u64 0] S)
  rw [World.size_alloc] at h2
  rw [World.size_alloc, World.size_alloc] at h3
  exact ⟨qb (qb (qb (Below.refl _ _) _) _) _, ⟨qe (qe h1 _) _, qe h2 _⟩, h3⟩
theorem cur_box (w : World) (A : Option Addr) (c : Nat) (l : List Int) (S : TypeId) :
    Below w.heap.size w (w.alloc (.cells #[.slice A l.length c, .int .i64 0, .int .u64 0] S)) ∧ (w.alloc (.cells #[.slice A l.length c, .int .i64 0, .int .u64 0] S)).heap[w.heap.size]? = some (.cells #[.slice A l.length c, .int .i64 0, .int .u64 0] S (0, 0)) :=
  ⟨qb (Below.refl _ _) _, heap_alloc_new w _⟩
/-- What a drawn list of walkers holds. -/
def DrwList (w : World) (e : Ending) (w' : World) : Prop := ∃ (s : List S25) (A : Option Addr) (c : Nat), e = .returned (.slice A s.length c) ∧ s.length ≤ c ∧ Kd.C k25 w' A s.length s ∧ s.length ≤ 200 ∧ Below w.heap.size w w'
set_option maxHeartbeats 4000000 in
set_option maxRecDepth 100000 in
theorem drawAW (A : Option Addr) (c : Nat) (l : List Int) (hc8 : Code8 l) (w : World) (hr : Kd.C (Kd.int .u8) w A l.length l) :
    Calls Tryz.prog 58 #[.slice A l.length c] w (DrwList w) := by
  obtain ⟨s, at1, sd1, e1, p1, q1, hs⟩ := t_walkers l hc8 0 0 (by omega) (by omega)
  have E1 := jb.mk e1
  have HR := jb.mk hr
  have HS := jb.mk hs
  clear e1 p1 q1 hr hc8 hs
  go_enter Tryz.func58, Tryz.ntmps58
  go_wp2_with fail
  obtain ⟨b0, i0⟩ := cur_box w A c l 65
  have I0 : jf w _ w.heap.size l 0 0 := ⟨A, c, i0, by omega, HR.out⟩
  clear i0
  (refine (spec_l1Cur_walkers.calls 100 _ l 0 0 _ _ _ w _ I0 b0 E1.out).mono ?_)
  rintro e W2 ⟨v, rfl, R2, I2, B2, K2⟩
  obtain ⟨As, cs, rfl, hcs, C2⟩ := Kd.R_reads R2
  have C5 := jb.mk C2
  have B5 := jb.mk B2
  have H5 := jb.mk hcs
  clear R2 I2 B2 K2 C2 hcs I0 b0
  go_wp2_with fail
  refine bodyPost_ret (v := .slice As s.length cs) (by simp [results, Tryz.results58, go_sem]) rfl ⟨s, As, cs, rfl, H5.out, C5.out, HS.out, B5.out⟩
set_option maxHeartbeats 4000000 in
set_option maxRecDepth 100000 in
theorem drawLO (A : Option Addr) (c : Nat) (l : List Int) (hc8 : Code8 l) (w : World) (hr : Kd.C (Kd.int .u8) w A l.length l) :
    Calls Tryz.prog 20 #[.slice A l.length c] w (DrwList w) := by
  have H := jb.mk (drawAW A c l hc8 w hr)
  clear hr hc8
  go_enter Tryz.func20, Tryz.ntmps20
  go_wp2_with fail
  (refine H.out.mono ?_)
  rintro e W2 ⟨s, As, cs, rfl, h1, h2, h3, h4⟩
  have H2 := jb.mk (show s.length ≤ cs ∧ Kd.C k25 W2 As s.length s ∧ s.length ≤ 200 ∧ Below w.heap.size w W2 from ⟨h1, h2, h3, h4⟩)
  clear h1 h2 h3 h4
  go_wp2_with fail
  refine bodyPost_ret (v := .slice As s.length cs) (by simp [results, Tryz.results20, go_sem]) rfl ⟨s, As, cs, rfl, H2.out⟩
theorem far2S {W : World} {G b : Nat} {u v : Value} (h : W.cell? ⟨G, 0, none⟩ = some u ∧ W.cell? ⟨G, 1, none⟩ = some v) (hne : b ≠ G) (x y : Value) : ((W.setCell ⟨b, 0, none⟩ x).setCell ⟨b, 1, none⟩ y).cell? ⟨G, 0, none⟩ = some u ∧ ((W.setCell ⟨b, 0, none⟩ x).setCell ⟨b, 1, none⟩ y).cell? ⟨G, 1, none⟩ = some v :=
  ⟨(World.cell?_setCell_other _ _ _ _ (by intro e; simp only [Addr.mk.injEq] at e; omega)).trans ((World.cell?_setCell_other _ _ _ _ (by intro e; simp only [Addr.mk.injEq] at e; omega)).trans h.1), (World.cell?_setCell_other _ _ _ _ (by intro e; simp only [Addr.mk.injEq] at e; omega)).trans ((World.cell?_setCell_other _ _ _ _ (by intro e; simp only [Addr.mk.injEq] at e; omega)).trans h.2)⟩
theorem t_around (l : List Int) (h : Code8 l) (at_ sd : Int) (h0 : 0 ≤ at_) (h1 : at_ ≤ 800000) : ∃ r a s, spec_l1Cur_around.f l at_ sd = some (r, a, s) ∧ at_ ≤ a ∧ a ≤ at_ + 8 := by
  unfold spec_l1Cur_around.f
  obtain ⟨r', a', s', e', _, e1', e2'⟩ := t_among l h at_ sd [1, 2, 5, 6, 10, 12, 12, 30, 1000, 1001, 0, (-1)] (by simp) (by simp) (by omega) (by omega)
  rw [e']; simp only [Option.bind_some]; exact ⟨_, _, _, rfl, by omega, by omega⟩
/-- What a drawn list of walkers and a time hold. -/
def DrwListT (w : World) (e : Ending) (w' : World) : Prop := ∃ (s : List S25) (A : Option Addr) (c : Nat) (m n : Int), e = .returned (.tuple #[.slice A s.length c, .int .i64 m, .int .i64 n]) ∧ s.length ≤ c ∧ Kd.C k25 w' A s.length s ∧ s.length ≤ 200 ∧ Below w.heap.size w w'
set_option maxHeartbeats 4000000 in
set_option maxRecDepth 100000 in
theorem drawWsA (A : Option Addr) (c : Nat) (l : List Int) (hc8 : Code8 l) (w : World) (hr : Kd.C (Kd.int .u8) w A l.length l) :
    Calls Tryz.prog 17 #[.slice A l.length c] w (DrwListT w) := by
  obtain ⟨s, at1, sd1, e1, p1, q1, hs⟩ := t_walkers l hc8 0 0 (by omega) (by omega)
  obtain ⟨m, n, at2, sd2, e2, p2, q2⟩ := t_time2 l hc8 at1 sd1 (by omega) (by omega)
  have E1 := jb.mk e1
  have E2 := jb.mk e2
  have HR := jb.mk hr
  have HS := jb.mk hs
  clear e1 e2 p1 q1 p2 q2 hr hc8 hs
  go_enter Tryz.func17, Tryz.ntmps17
  go_wp2_with fail
  obtain ⟨b0, i0⟩ := cur_box w A c l 65
  have I0 : jf w _ w.heap.size l 0 0 := ⟨A, c, i0, by omega, HR.out⟩
  clear i0
  (refine (spec_l1Cur_walkers.calls 100 _ l 0 0 _ _ _ w _ I0 b0 E1.out).mono ?_)
  rintro e W2 ⟨v, rfl, R2, I2, B2, K2⟩
  obtain ⟨A0, c0, i2, i3, i4⟩ := I2
  have R3 := Kd.R_types R2 i2 (by decide)
  have I2 : jf w W2 w.heap.size l at1 sd1 := ⟨A0, c0, i2, i3, i4⟩
  clear R2 K2 I0 b0 i2 i3 i4
  go_wp2_with fail
  (refine (spec_l1Cur_time2.calls _ l at1 sd1 _ _ _ _ w _ I2 B2 E2.out).mono ?_)
  rintro e W3 ⟨rfl, I3, B3, K3⟩
  have R4 := Kd.R_keep R3 K3 (fun k h => h.2)
  obtain ⟨As, cs, rfl, hcs, C2⟩ := Kd.R_reads R4
  have C5 := jb.mk C2
  have B5 := jb.mk B3
  have H5 := jb.mk hcs
  clear R3 R4 I2 B2 I3 B3 K3 C2 hcs
  go_wp2_with fail
  refine bodyPost_ret (v := .tuple #[.slice As s.length cs, .int .i64 m, .int .i64 n]) (by simp [results, Tryz.results17, go_sem]) rfl ⟨s, As, cs, m, n, rfl, H5.out, ?_, HS.out, ?_⟩
  · first | exact C5.out | exact Kd.C_below C5.out (qc (Below.refl _ _))
  · first | exact B5.out | exact qc B5.out
/-- What a drawn ring and list of walkers hold. -/
def DrwRingL (w : World) (e : Ending) (w' : World) : Prop := ∃ (a : Int) (s : List S25) (A : Option Addr) (c : Nat), e = .returned (.tuple #[.int .i64 a, .slice A s.length c]) ∧ s.length ≤ c ∧ Kd.C k25 w' A s.length s ∧ s.length ≤ 200 ∧ Below w.heap.size w w'
set_option maxHeartbeats 4000000 in
set_option maxRecDepth 100000 in
theorem drawAS (A : Option Addr) (c : Nat) (l : List Int) (hc8 : Code8 l) (w : World) (hr : Kd.C (Kd.int .u8) w A l.length l) :
    Calls Tryz.prog 25 #[.slice A l.length c] w (DrwRingL w) := by
  obtain ⟨a, at1, sd1, e1, p1, q1⟩ := t_around l hc8 0 0 (by omega) (by omega)
  obtain ⟨s, at2, sd2, e2, p2, q2, hs⟩ := t_walkers l hc8 at1 sd1 (by omega) (by omega)
  have E1 := jb.mk e1
  have E2 := jb.mk e2
  have HR := jb.mk hr
  have HS := jb.mk hs
  clear e1 e2 p1 q1 p2 q2 hr hc8 hs
  go_enter Tryz.func25, Tryz.ntmps25
  go_wp2_with fail
  obtain ⟨b0, i0⟩ := cur_box w A c l 65
  have I0 : jf w _ w.heap.size l 0 0 := ⟨A, c, i0, by omega, HR.out⟩
  clear i0
  (refine (spec_l1Cur_around.calls _ l 0 0 _ _ _ w _ I0 b0 E1.out).mono ?_)
  rintro e W2 ⟨rfl, I2, B2, K2⟩
  clear K2 I0 b0
  go_wp2_with ((go_at_call 47; (with_reducible refine (spec_l1Cur_walkers.calls 100 _ l at1 sd1 _ _ _ w _ (by first | exact I2 | exact I2.drew) (by first | exact B2 | exact qc B2) E2.out).mono ?_); rintro e W3 ⟨v, rfl, R3, I3, B3, K3⟩; obtain ⟨As, cs, rfl, hcs, C2⟩ := Kd.R_reads R3; have C5 := jb.mk C2; have B5 := jb.mk B3; have H5 := jb.mk hcs; clear R3 I2 B2 I3 B3 K3 C2 hcs))
  refine bodyPost_ret (v := .tuple #[.int .i64 a, .slice As s.length cs]) (by simp [results, Tryz.results25, go_sem]) rfl ⟨a, s, As, cs, rfl, H5.out, ?_, HS.out, ?_⟩
  · first | exact C5.out | exact Kd.C_below C5.out (qc (Below.refl _ _))
  · first | exact B5.out | exact qc B5.out
/-- What a drawn ring and two walkers hold. -/
def DrwRT (w : World) (e : Ending) (w' : World) : Prop := ∃ a s0 s1 t0 t1 : Int, e = .returned (.tuple #[.int .i64 a, .agg #[.int .i64 s0, .int .i64 s1], .agg #[.int .i64 t0, .int .i64 t1]]) ∧ Below w.heap.size w w'
set_option maxHeartbeats 4000000 in
set_option maxRecDepth 100000 in
theorem drawRT (A : Option Addr) (c : Nat) (l : List Int) (hc8 : Code8 l) (w : World) (hr : Kd.C (Kd.int .u8) w A l.length l) :
    Calls Tryz.prog 30 #[.slice A l.length c] w (DrwRT w) := by
  obtain ⟨ar, at0, sd0, e0, p0, q0⟩ := t_around l hc8 0 0 (by omega) (by omega)
  obtain ⟨a1, b1, at1, sd1, e1, p1, q1⟩ := t_walker l hc8 at0 sd0 (by omega) (by omega)
  obtain ⟨a2, b2, at2, sd2, e2, p2, q2⟩ := t_walker l hc8 at1 sd1 (by omega) (by omega)
  have E0 := jb.mk e0
  have E1 := jb.mk e1
  have E2 := jb.mk e2
  have HR := jb.mk hr
  clear e0 p0 q0 e1 e2 p1 q1 p2 q2 hr hc8
  have hu25 := Tryz.underlying25
  go_enter Tryz.func30, Tryz.ntmps30
  go_wp2_with fail
  obtain ⟨b0, z0, i0⟩ := two_boxes w A c l 25 65
  have I0 : jf w _ (w.heap.size + 2) l 0 0 := ⟨A, c, i0, by omega, HR.out⟩
  clear i0
  (refine (spec_l1Cur_around.calls _ l 0 0 _ _ _ w _ I0 b0 E0.out).mono ?_)
  rintro e W0 ⟨rfl, I9, B9, K9⟩
  have Z9 := z0.keep K9
  clear I0 b0 z0 K9
  go_wp2_with fail
  (refine (spec_l1Cur_walker.calls _ l at0 sd0 _ _ _ _ w _ I9 B9 E1.out).mono ?_)
  rintro e W1 ⟨rfl, I1, B1, K1⟩
  have Z1 := Z9.keep K1
  clear I9 B9 Z9 K1
  go_wp2_with fail
  have I2 := I1.alloc (.cells #[.int .i64 a1, .int .i64 b1] 25)
  have B2 := qb B1 (.cells #[.int .i64 a1, .int .i64 b1] 25)
  have Z2 : Zb w (W1.alloc (.cells #[.int .i64 a1, .int .i64 b1] 25)) 25 := ⟨qe Z1.1 _, qe Z1.2 _⟩
  have y2 := heap_alloc_new W1 (.cells #[.int .i64 a1, .int .i64 b1] 25)
  have gl : w.heap.size + 2 < W1.heap.size := I1.lt
  clear I1 B1 Z1
  generalize W1.alloc (.cells #[.int .i64 a1, .int .i64 b1] 25) = W2 at *
  generalize W1.heap.size = G at *
  have d0 := qh y2 0
  have d1 := qh y2 1
  simp at d0 d1
  have Y2 := jb.mk y2
  have ZZ := jb.mk Z2
  clear y2 Z2
  go_region_held3 (fun w' => w'.cell? ⟨G, 0, none⟩ = some (.int .i64 a1) ∧ w'.cell? ⟨G, 1, none⟩ = some (.int .i64 b1))
    (first | exact ⟨d0, d1⟩ | assumption | exact ⟨qh Y3.out 0, qh Y3.out 1⟩ | exact far2S (by assumption) (by omega) _ _)
    (first | ((go_at_call 43; (with_reducible refine (spec_l1Cur_walker.calls _ l at1 sd1 _ _ _ _ w _ I2.drew (qc B2) E2.out).mono ?_); rintro e W3 ⟨rfl, I3, B3, K3⟩; have Y3 := jb.mk ((K3.2 _ (blk_lt Y2.out) (by omega) (by simp)).trans Y2.out); have Z3 := jb.mk (ZZ.out.keep K3); have B5 := jb.mk B3; clear I3 B3 K3; have cA0 := qh Z3.out.1 0; have cA1 := qh Z3.out.1 1; have cB0 := qh Z3.out.2 0; have cB1 := qh Z3.out.2 1; simp at cA0 cA1 cB0 cB1; have fA0 := qg Z3.out.1 0; have fA1 := qg Z3.out.1 1; have fB0 := qg Z3.out.2 0; have fB1 := qg Z3.out.2 1)))
  have y1 := blk_far (blk_far (blk_set (blk_set Z3.out.1 0 (.int .i64 a1)) 1 (.int .i64 b1)) (p := ⟨w.heap.size + 1, 0, none⟩) (by simp) (.int .i64 a2)) (p := ⟨w.heap.size + 1, 1, none⟩) (by simp) (.int .i64 b2)
  have y2 := blk_set (blk_set (blk_far (blk_far Z3.out.2 (p := ⟨w.heap.size, 0, none⟩) (by simp) (.int .i64 a1)) (p := ⟨w.heap.size, 1, none⟩) (by simp) (.int .i64 b1)) 0 (.int .i64 a2)) 1 (.int .i64 b2)
  have g0 := jb.mk (qh y1 0)
  have g1 := jb.mk (qh y1 1)
  have g2 := jb.mk (qh y2 0)
  have g3 := jb.mk (qh y2 1)
  clear y1 y2
  go_wp2_with fail
  have g0 := g0.out
  have g1 := g1.out
  have g2 := g2.out
  have g3 := g3.out
  simp at g0 g1 g2 g3
  refine bodyPost_ret (v := .tuple #[.int .i64 ar, .agg #[.int .i64 a1, .int .i64 b1], .agg #[.int .i64 a2, .int .i64 b2]]) (by simp [results, Tryz.results30, go_sem, g0, g1, g2, g3]) rfl ⟨ar, a1, b1, a2, b2, rfl, ?_⟩
  exact (((B5.out.setCell (Nat.le_refl _) _).setCell (Nat.le_refl _) _).setCell (by simp) _).setCell (by simp) _
theorem two_boxesN (w : World) (T : TypeId) : Below w.heap.size w ((w.alloc (.cells #[.int .i64 0, .int .i64 0] T)).alloc (.cells #[.int .i64 0, .int .i64 0] T)) ∧ Zb w ((w.alloc (.cells #[.int .i64 0, .int .i64 0] T)).alloc (.cells #[.int .i64 0, .int .i64 0] T)) T := by
  have h1 := heap_alloc_new w (.cells #[.int .i64 0, .int .i64 0] T)
  have h2 := heap_alloc_new (w.alloc (.cells #[.int .i64 0, .int .i64 0] T)) (.cells #[.int .i64 0, .int .i64 0] T)
  rw [World.size_alloc] at h2
  exact ⟨qb (qb (Below.refl _ _) _) _, qe h1 _, h2⟩
theorem Zb.below {w W W' : World} {T : TypeId} (h : Zb w W T) (hb : Below W.heap.size W W') : Zb w W' T := ⟨qu h.1 hb, qu h.2 hb⟩
set_option maxHeartbeats 4000000 in
set_option maxRecDepth 100000 in
theorem drawRP (A : Option Addr) (c : Nat) (l : List Int) (hc8 : Code8 l) (w : World) (hr : Kd.C (Kd.int .u8) w A l.length l) :
    Calls Tryz.prog 5 #[.slice A l.length c] w (DrwRT w) := by
  obtain ⟨b0, z0⟩ := two_boxesN w 25
  have hr2 := Kd.C_below hr b0
  have HC := jb.mk (drawRT A c l hc8 _ hr2)
  have B0 := jb.mk b0
  have Z0 := jb.mk z0
  have hu25 := Tryz.underlying25
  clear hr hr2 hc8 b0 z0
  go_enter Tryz.func5, Tryz.ntmps5
  go_wp2_with fail
  (refine HC.out.mono ?_)
  rintro e W2 ⟨ar, a1, b1, a2, b2, rfl, hb⟩
  have Z2 := jb.mk (Z0.out.below hb)
  have B2 := jb.mk (B0.out.trans (hb.mono B0.out.size))
  clear hb Z0 B0 HC
  have cA0 := qh Z2.out.1 0
  have cA1 := qh Z2.out.1 1
  have cB0 := qh Z2.out.2 0
  have cB1 := qh Z2.out.2 1
  have fA0 := qg Z2.out.1 0
  have fA1 := qg Z2.out.1 1
  have fB0 := qg Z2.out.2 0
  have fB1 := qg Z2.out.2 1
  simp at cA0 cA1 cB0 cB1
  have y1 := blk_far (blk_far (blk_set (blk_set Z2.out.1 0 (.int .i64 a1)) 1 (.int .i64 b1)) (p := ⟨w.heap.size + 1, 0, none⟩) (by simp) (.int .i64 a2)) (p := ⟨w.heap.size + 1, 1, none⟩) (by simp) (.int .i64 b2)
  have y2 := blk_set (blk_set (blk_far (blk_far Z2.out.2 (p := ⟨w.heap.size, 0, none⟩) (by simp) (.int .i64 a1)) (p := ⟨w.heap.size, 1, none⟩) (by simp) (.int .i64 b1)) 0 (.int .i64 a2)) 1 (.int .i64 b2)
  have g0 := jb.mk (qh y1 0)
  have g1 := jb.mk (qh y1 1)
  have g2 := jb.mk (qh y2 0)
  have g3 := jb.mk (qh y2 1)
  clear y1 y2
  go_wp2_with fail
  have g0 := g0.out
  have g1 := g1.out
  have g2 := g2.out
  have g3 := g3.out
  simp at g0 g1 g2 g3
  refine bodyPost_ret (v := .tuple #[.int .i64 ar, .agg #[.int .i64 a1, .int .i64 b1], .agg #[.int .i64 a2, .int .i64 b2]]) (by simp [results, Tryz.results5, go_sem, g0, g1, g2, g3]) rfl ⟨ar, a1, b1, a2, b2, rfl, ?_⟩
  exact (((B2.out.setCell (Nat.le_refl _) _).setCell (Nat.le_refl _) _).setCell (by simp) _).setCell (by simp) _
theorem far22S {W : World} {G H b : Nat} {u v x y : Value} (h : (W.cell? ⟨G, 0, none⟩ = some u ∧ W.cell? ⟨G, 1, none⟩ = some v) ∧ (W.cell? ⟨H, 0, none⟩ = some x ∧ W.cell? ⟨H, 1, none⟩ = some y)) (h1 : b ≠ G) (h2 : b ≠ H) (p q : Value) :
    (((W.setCell ⟨b, 0, none⟩ p).setCell ⟨b, 1, none⟩ q).cell? ⟨G, 0, none⟩ = some u ∧ ((W.setCell ⟨b, 0, none⟩ p).setCell ⟨b, 1, none⟩ q).cell? ⟨G, 1, none⟩ = some v) ∧ (((W.setCell ⟨b, 0, none⟩ p).setCell ⟨b, 1, none⟩ q).cell? ⟨H, 0, none⟩ = some x ∧ ((W.setCell ⟨b, 0, none⟩ p).setCell ⟨b, 1, none⟩ q).cell? ⟨H, 1, none⟩ = some y) :=
  ⟨far2S h.1 h1 p q, far2S h.2 h2 p q⟩
theorem alloc2S {W : World} {G H : Nat} {u v x y : Value} (h : (W.cell? ⟨G, 0, none⟩ = some u ∧ W.cell? ⟨G, 1, none⟩ = some v) ∧ (W.cell? ⟨H, 0, none⟩ = some x ∧ W.cell? ⟨H, 1, none⟩ = some y)) (o : Obj) :
    ((W.alloc o).cell? ⟨G, 0, none⟩ = some u ∧ (W.alloc o).cell? ⟨G, 1, none⟩ = some v) ∧ ((W.alloc o).cell? ⟨H, 0, none⟩ = some x ∧ (W.alloc o).cell? ⟨H, 1, none⟩ = some y) := by
  have kc : ∀ p v, W.cell? p = some v → (W.alloc o).cell? p = some v := fun p v h => ((qb (Below.refl W.heap.size W) o).cell (World.block_lt_of_cell? W _ h)).trans h
  exact ⟨⟨kc _ _ h.1.1, kc _ _ h.1.2⟩, ⟨kc _ _ h.2.1, kc _ _ h.2.2⟩⟩
theorem drew2S {W : World} {G H : Nat} {u v x y : Value} (h : (W.cell? ⟨G, 0, none⟩ = some u ∧ W.cell? ⟨G, 1, none⟩ = some v) ∧ (W.cell? ⟨H, 0, none⟩ = some x ∧ W.cell? ⟨H, 1, none⟩ = some y)) :
    (W.drew.cell? ⟨G, 0, none⟩ = some u ∧ W.drew.cell? ⟨G, 1, none⟩ = some v) ∧ (W.drew.cell? ⟨H, 0, none⟩ = some x ∧ W.drew.cell? ⟨H, 1, none⟩ = some y) := h
theorem rowL (W : World) (zs : List Int) (h : zs.length ≤ 1000) : Kd.C (Kd.int .i64) (W.alloc (.cells (zs.map (Value.int .i64)).toArray 3)) (some ⟨W.heap.size, 0, none⟩) zs.length zs := by
  refine ⟨rfl, by first | omega | (unfold maxLen; omega), fun _ => ⟨⟨W.heap.size, 0, none⟩, rfl, fun j p hp => ⟨[.int .i64 p], rfl, rfl, fun i u hi => ?_⟩⟩⟩
  have hj : j < zs.length := (List.getElem?_eq_some_iff.1 hp).1
  have hi0 : i = 0 := by rcases Nat.lt_or_ge i 1 with z | z; omega; rw [List.getElem?_eq_none (by simpa using z)] at hi; simp at hi
  subst hi0
  have hm := World.cell?_alloc_mark W (zs.map (Value.int .i64)).toArray 3 (0, 0) j
  have e : (⟨W.heap.size, 0, none⟩ : Addr).add (j * (Kd.int .i64).sz + 0) = ⟨W.heap.size, j, none⟩ := by
    have : j * (Kd.int .i64).sz + 0 = j := by show j * 1 + 0 = j; omega
    rw [this]
    unfold Addr.add
    by_cases z : j = 0
    · subst z; rfl
    · simp [z]
  rw [e]
  refine hm.trans ?_
  have h2 : u = .int .i64 p := by simpa using hi.symm
  subst h2
  simp [hp]
theorem keepAll {w W W' : World} {G H : Nat} {T : TypeId} {o1 o2 : Obj} (K : qj W W' (w.heap.size + 2) none) (h1 : W.heap[G]? = some o1) (h2 : W.heap[H]? = some o2) (h3 : Zb w W T) (n1 : w.heap.size + 2 < G) (n2 : w.heap.size + 2 < H) : W'.heap[G]? = some o1 ∧ W'.heap[H]? = some o2 ∧ Zb w W' T :=
  ⟨(K.2 _ (blk_lt h1) (by omega) (by simp)).trans h1, (K.2 _ (blk_lt h2) (by omega) (by simp)).trans h2, h3.keep K⟩
/-- What a drawn ring, two walkers and a time hold. -/
def DrwCR (w : World) (e : Ending) (w' : World) : Prop := ∃ a s0 s1 t0 t1 t : Int, e = .returned (.tuple #[.int .i64 a, .agg #[.int .i64 s0, .int .i64 s1], .agg #[.int .i64 t0, .int .i64 t1], .int .i64 t]) ∧ Below w.heap.size w w'
set_option maxHeartbeats 4000000 in
set_option maxRecDepth 100000 in
theorem drawCR (A : Option Addr) (c : Nat) (l : List Int) (hc8 : Code8 l) (w : World) (hr : Kd.C (Kd.int .u8) w A l.length l) :
    Calls Tryz.prog 14 #[.slice A l.length c] w (DrwCR w) := by
  obtain ⟨ar, at0, sd0, e0, p0, q0⟩ := t_around l hc8 0 0 (by omega) (by omega)
  obtain ⟨a1, b1, at1, sd1, e1, p1, q1⟩ := t_walker l hc8 at0 sd0 (by omega) (by omega)
  obtain ⟨a2, b2, at2, sd2, e2, p2, q2⟩ := t_walker l hc8 at1 sd1 (by omega) (by omega)
  obtain ⟨a3, at3, sd3, e3, _, p3, q3⟩ := t_among l hc8 at2 sd2 [0, 1, 2, 3, 7, 20, 1000, 1001, (-1)] (by simp) (by simp) (by omega) (by omega)
  have E0 := jb.mk e0
  have E1 := jb.mk e1
  have E2 := jb.mk e2
  have E3 := jb.mk e3
  have HR := jb.mk hr
  clear e0 e1 e2 e3 p0 q0 p1 q1 p2 q2 p3 q3 hr hc8
  have hu25 := Tryz.underlying25
  go_enter Tryz.func14, Tryz.ntmps14
  go_wp2_with fail
  obtain ⟨b0, z0, i0⟩ := two_boxes w A c l 25 65
  have I0 : jf w _ (w.heap.size + 2) l 0 0 := ⟨A, c, i0, by omega, HR.out⟩
  clear i0
  (refine (spec_l1Cur_around.calls _ l 0 0 _ _ _ w _ I0 b0 E0.out).mono ?_)
  rintro e W0 ⟨rfl, I9, B9, K9⟩
  have Z9 := z0.keep K9
  clear I0 b0 z0 K9
  go_wp2_with fail
  (refine (spec_l1Cur_walker.calls _ l at0 sd0 _ _ _ _ w _ I9 B9 E1.out).mono ?_)
  rintro e W1 ⟨rfl, I1, B1, K1⟩
  have Z1 := Z9.keep K1
  clear I9 B9 Z9 K1
  go_wp2_with fail
  have I2 := I1.alloc (.cells #[.int .i64 a1, .int .i64 b1] 25)
  have B2 := qb B1 (.cells #[.int .i64 a1, .int .i64 b1] 25)
  have Z2 : Zb w (W1.alloc (.cells #[.int .i64 a1, .int .i64 b1] 25)) 25 := ⟨qe Z1.1 _, qe Z1.2 _⟩
  have y2 := heap_alloc_new W1 (.cells #[.int .i64 a1, .int .i64 b1] 25)
  have gl : w.heap.size + 2 < W1.heap.size := I1.lt
  clear I1 B1 Z1
  generalize W1.alloc (.cells #[.int .i64 a1, .int .i64 b1] 25) = W2 at *
  generalize W1.heap.size = G at *
  (refine (spec_l1Cur_walker.calls _ l at1 sd1 _ _ _ _ w _ I2 B2 E2.out).mono ?_)
  rintro e W3 ⟨rfl, I3, B3, K3⟩
  have Z3 := Z2.keep K3
  have Y3 := (K3.2 _ (blk_lt y2) (by omega) (by simp)).trans y2
  clear I2 B2 Z2 K3 y2
  go_wp2_with fail
  have I4 := I3.alloc (.cells #[.int .i64 a2, .int .i64 b2] 25)
  have B4 := qb B3 (.cells #[.int .i64 a2, .int .i64 b2] 25)
  have Z4 : Zb w (W3.alloc (.cells #[.int .i64 a2, .int .i64 b2] 25)) 25 := ⟨qe Z3.1 _, qe Z3.2 _⟩
  have Y4 := qe Y3 (.cells #[.int .i64 a2, .int .i64 b2] 25)
  have x4 := heap_alloc_new W3 (.cells #[.int .i64 a2, .int .i64 b2] 25)
  have hl : w.heap.size + 2 < W3.heap.size := I3.lt
  clear I3 B3 Z3 Y3
  generalize W3.alloc (.cells #[.int .i64 a2, .int .i64 b2] 25) = W4 at *
  generalize W3.heap.size = H at *
  have hN : w.heap.size + 2 < W4.heap.size := I4.lt
  have d0 := qh Y4 0
  have d1 := qh Y4 1
  have x0 := qh x4 0
  have x1 := qh x4 1
  simp at d0 d1 x0 x1
  have Y2 := jb.mk Y4
  have X2 := jb.mk x4
  have ZZ := jb.mk Z4
  clear Y4 x4 Z4
  have KF : jb (∀ W', qj (W4.alloc (.cells #[.int .i64 0, .int .i64 1, .int .i64 2, .int .i64 3, .int .i64 7, .int .i64 20, .int .i64 1000, .int .i64 1001, .int .i64 (-1)] 3)).drew W' (w.heap.size + 2) none → W'.heap[G]? = some (.cells #[.int .i64 a1, .int .i64 b1] 25 (0, 0)) ∧ W'.heap[H]? = some (.cells #[.int .i64 a2, .int .i64 b2] 25 (0, 0)) ∧ Zb w W' 25 ∧ ((W'.cell? ⟨G, 0, none⟩ = some (.int .i64 a1) ∧ W'.cell? ⟨G, 1, none⟩ = some (.int .i64 b1)) ∧ (W'.cell? ⟨H, 0, none⟩ = some (.int .i64 a2) ∧ W'.cell? ⟨H, 1, none⟩ = some (.int .i64 b2))) ∧ (W'.cell? ⟨w.heap.size, 0, none⟩ = some (.int .i64 0) ∧ W'.cell? ⟨w.heap.size, 1, none⟩ = some (.int .i64 0) ∧ W'.cell? ⟨w.heap.size + 1, 0, none⟩ = some (.int .i64 0) ∧ W'.cell? ⟨w.heap.size + 1, 1, none⟩ = some (.int .i64 0)) ∧ (W'.frozen? ⟨w.heap.size, 0, none⟩ = false ∧ W'.frozen? ⟨w.heap.size, 1, none⟩ = false ∧ W'.frozen? ⟨w.heap.size + 1, 0, none⟩ = false ∧ W'.frozen? ⟨w.heap.size + 1, 1, none⟩ = false)) := ⟨fun W' K => by
    obtain ⟨k1, k2, k3⟩ := keepAll (show qj (W4.alloc (.cells #[.int .i64 0, .int .i64 1, .int .i64 2, .int .i64 3, .int .i64 7, .int .i64 20, .int .i64 1000, .int .i64 1001, .int .i64 (-1)] 3)) W' (w.heap.size + 2) none from K) (qe Y2.out _) (qe X2.out _) ⟨qe ZZ.out.1 _, qe ZZ.out.2 _⟩ (by omega) (by omega)
    exact ⟨k1, k2, k3, ⟨⟨qh k1 0, qh k1 1⟩, ⟨qh k2 0, qh k2 1⟩⟩, ⟨qh k3.1 0, qh k3.1 1, qh k3.2 0, qh k3.2 1⟩, ⟨qg k3.1 0, qg k3.1 1, qg k3.2 0, qg k3.2 1⟩⟩⟩
  have HAM := jb.mk (show Calls Tryz.prog 44 #[.pointer (some ⟨w.heap.size + 2, 0, none⟩), .slice (some ⟨W4.heap.size, 0, none⟩) 9 9] (W4.alloc (.cells #[.int .i64 0, .int .i64 1, .int .i64 2, .int .i64 3, .int .i64 7, .int .i64 20, .int .i64 1000, .int .i64 1001, .int .i64 (-1)] 3)).drew (fun e w' => e = .returned (.int .i64 a3) ∧ jf w w' (w.heap.size + 2) l at3 sd3 ∧ Below w.heap.size w w' ∧ qj (W4.alloc (.cells #[.int .i64 0, .int .i64 1, .int .i64 2, .int .i64 3, .int .i64 7, .int .i64 20, .int .i64 1000, .int .i64 1001, .int .i64 (-1)] 3)).drew w' (w.heap.size + 2) none) from
    spec_l1Cur_among.calls _ l at2 sd2 (some ⟨W4.heap.size, 0, none⟩) 9 [0, 1, 2, 3, 7, 20, 1000, 1001, (-1)] _ _ _ w _ (I4.alloc (.cells #[.int .i64 0, .int .i64 1, .int .i64 2, .int .i64 3, .int .i64 7, .int .i64 20, .int .i64 1000, .int .i64 1001, .int .i64 (-1)] 3)).drew (qc (qb B4 _)) (Kd.C_below (rowL W4 [0, 1, 2, 3, 7, 20, 1000, 1001, (-1)] (by simp)) (qc (Below.refl _ _))) (by simp) (by intro ad e _; cases e; show W4.heap.size ≠ w.heap.size + 2; omega) E3.out)
  go_region_held3 (fun w' => (w'.cell? ⟨G, 0, none⟩ = some (.int .i64 a1) ∧ w'.cell? ⟨G, 1, none⟩ = some (.int .i64 b1)) ∧ (w'.cell? ⟨H, 0, none⟩ = some (.int .i64 a2) ∧ w'.cell? ⟨H, 1, none⟩ = some (.int .i64 b2)))
    (first | with_reducible assumption | with_reducible exact drew2S (alloc2S ⟨⟨d0, d1⟩, ⟨x0, x1⟩⟩ _) | with_reducible exact alloc2S ⟨⟨d0, d1⟩, ⟨x0, x1⟩⟩ _ | with_reducible exact alloc2S (by with_reducible assumption) _ | with_reducible exact drew2S (by with_reducible assumption) | with_reducible exact drew2S ⟨⟨d0, d1⟩, ⟨x0, x1⟩⟩ | with_reducible exact ⟨⟨d0, d1⟩, ⟨x0, x1⟩⟩ | with_reducible exact far22S (by with_reducible assumption) (by omega) (by omega) _ _)
    (first | ((go_at_call 44; (with_reducible refine HAM.out.mono ?_); rintro e W5 ⟨rfl, I5, B5, K5⟩; obtain ⟨y3, x3, z3, s5, ⟨cA0, cA1, cB0, cB1⟩, ⟨fA0, fA1, fB0, fB1⟩⟩ := KF.out _ K5; have Z3 := jb.mk z3; clear y3 x3 z3; have B6 := jb.mk B5; clear I5 B5 K5)))
  have y1 := blk_far (blk_far (blk_set (blk_set Z3.out.1 0 (.int .i64 a1)) 1 (.int .i64 b1)) (p := ⟨w.heap.size + 1, 0, none⟩) (by simp) (.int .i64 a2)) (p := ⟨w.heap.size + 1, 1, none⟩) (by simp) (.int .i64 b2)
  have y2 := blk_set (blk_set (blk_far (blk_far Z3.out.2 (p := ⟨w.heap.size, 0, none⟩) (by simp) (.int .i64 a1)) (p := ⟨w.heap.size, 1, none⟩) (by simp) (.int .i64 b1)) 0 (.int .i64 a2)) 1 (.int .i64 b2)
  have g0 := jb.mk (qh y1 0)
  have g1 := jb.mk (qh y1 1)
  have g2 := jb.mk (qh y2 0)
  have g3 := jb.mk (qh y2 1)
  clear y1 y2
  go_wp2_with fail
  have g0 := g0.out
  have g1 := g1.out
  have g2 := g2.out
  have g3 := g3.out
  simp at g0 g1 g2 g3
  refine bodyPost_ret (v := .tuple #[.int .i64 ar, .agg #[.int .i64 a1, .int .i64 b1], .agg #[.int .i64 a2, .int .i64 b2], .int .i64 a3]) (by simp [results, Tryz.results14, go_sem, g0, g1, g2, g3]) rfl ⟨ar, a1, b1, a2, b2, a3, rfl, ?_⟩
  exact (((B6.out.setCell (Nat.le_refl _) _).setCell (Nat.le_refl _) _).setCell (by simp) _).setCell (by simp) _
end Go.Proofs.YtfaccdafldbjcaaGreat.DrawP
