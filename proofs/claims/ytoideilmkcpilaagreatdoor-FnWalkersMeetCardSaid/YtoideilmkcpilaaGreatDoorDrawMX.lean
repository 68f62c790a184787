/- The functions that draw walkers: each answers. -/
import Derived.Test.YtoideilmkcpilaaGreatDoorDrawMW
import Derived.Deep.RegionWith
import Derived.Deep.RegionHeld3
import Derived.WalkKit
namespace Go.Proofs.YtoideilmkcpilaaGreatDoor.DrawP
open Go.RowKit Go.Proofs.YtoideilmkcpilaaGreatDoor.OFnWalkersMeet Go.Proofs.YtoideilmkcpilaaGreatDoorW.PrintWords Go.Proofs.YtoideilmkcpilaaGreatDoorW.PrintLast Go.Proofs.YtoideilmkcpilaaGreatDoorW.PrintMore
set_option linter.unusedVariables false
set_option linter.unusedSimpArgs false
/-- What two drawn walkers and a time hold. -/
def DrwGA (w : World) (e : Ending) (w' : World) : Prop := ∃ s0 s1 t0 t1 m n : Int, e = .returned (.tuple #[.agg #[.int .i64 s0, .int .i64 s1], .agg #[.int .i64 t0, .int .i64 t1], .int .i64 m, .int .i64 n]) ∧ Below w.heap.size w w'
theorem far22S {W : World} {G H b : Nat} {u v x y : Value} (h : (W.cell? ⟨G, 0, none⟩ = some u ∧ W.cell? ⟨G, 1, none⟩ = some v) ∧ (W.cell? ⟨H, 0, none⟩ = some x ∧ W.cell? ⟨H, 1, none⟩ = some y)) (h1 : b ≠ G) (h2 : b ≠ H) (p q : Value) :
    (((W.setCell ⟨b, 0, none⟩ p).setCell ⟨b, 1, none⟩ q).cell? ⟨G, 0, none⟩ = some u ∧ ((W.setCell ⟨b, 0, none⟩ p).setCell ⟨b, 1, none⟩ q).cell? ⟨G, 1, none⟩ = some v) ∧ (((W.setCell ⟨b, 0, none⟩ p).setCell ⟨b, 1, none⟩ q).cell? ⟨H, 0, none⟩ = some x ∧ ((W.setCell ⟨b, 0, none⟩ p).setCell ⟨b, 1, none⟩ q).cell? ⟨H, 1, none⟩ = some y) :=
  ⟨far2S h.1 h1 p q, far2S h.2 h2 p q⟩
set_option maxHeartbeats 4000000 in
set_option maxRecDepth 100000 in
theorem drawGA (A : Option Addr) (c : Nat) (l : List Int) (hc8 : Code8 l) (w : World) (hr : Kd.C (Kd.int .u8) w A l.length l) :
    Calls Tryz.prog 23 #[.slice A l.length c] w (DrwGA w) := by
  obtain ⟨a1, b1, at1, sd1, e1, p1, q1⟩ := t_walker l hc8 0 0 (by omega) (by omega)
  obtain ⟨a2, b2, at2, sd2, e2, p2, q2⟩ := t_walker l hc8 at1 sd1 (by omega) (by omega)
  obtain ⟨a3, b3, at3, sd3, e3, p3, q3⟩ := t_time2 l hc8 at2 sd2 (by omega) (by omega)
  have E1 := jb.mk e1
  have E2 := jb.mk e2
  have E3 := jb.mk e3
  have HR := jb.mk hr
  clear e1 e2 e3 p1 q1 p2 q2 p3 q3 hr hc8
  have hu25 := Tryz.underlying25
  go_enter Tryz.func23, Tryz.ntmps23
  go_wp2_with fail
  obtain ⟨b0, z0, i0⟩ := two_boxes w A c l 25 57
  have I0 : jg w _ (w.heap.size + 2) l 0 0 := ⟨A, c, i0, by omega, HR.out⟩
  clear i0
  (refine (spec_l1Cur_walker.calls _ l 0 0 _ _ _ _ w _ I0 b0 E1.out).mono ?_)
  rintro e W1 ⟨rfl, I1, B1, K1⟩
  have Z1 := z0.keep K1
  clear I0 b0 z0 K1
  go_wp2_with fail
  have I2 := I1.alloc (.cells #[.int .i64 a1, .int .i64 b1] 25)
  have B2 := qb B1 (.cells #[.int .i64 a1, .int .i64 b1] 25)
  have Z2 : Zb w (W1.alloc (.cells #[.int .i64 a1, .int .i64 b1] 25)) 25 := ⟨qe Z1.1 _, qe Z1.2 _⟩
  have y2 := heap_alloc_new W1 (.cells #[.int .i64 a1, .int .i64 b1] 25)
  have gl : w.heap.size + 2 < W1.heap.size := I1.lt
  clear I1 B1 Z1
  generalize W1.alloc (.cells #[.int .i64 a1, .int .i64 b1] 25) = W2 at *
  generalize W1.heap.size = G at *
  (refine (spec_l1Cur_walker.calls _ l at1 sd1 _ _ _ _ w _ I2 B2 E2.out).mono ?_)
  rintro e W3 ⟨rfl, I3, B3, K3⟩
  have Z3 := Z2.keep K3
  have Y3 := (K3.2 _ (blk_lt y2) (by omega) (by simp)).trans y2
  clear I2 B2 Z2 K3 y2
  go_wp2_with fail
  have I4 := I3.alloc (.cells #[.int .i64 a2, .int .i64 b2] 25)
  have B4 := qb B3 (.cells #[.int .i64 a2, .int .i64 b2] 25)
  have Z4 : Zb w (W3.alloc (.cells #[.int .i64 a2, .int .i64 b2] 25)) 25 := ⟨qe Z3.1 _, qe Z3.2 _⟩
  have Y4 := qe Y3 (.cells #[.int .i64 a2, .int .i64 b2] 25)
  have x4 := heap_alloc_new W3 (.cells #[.int .i64 a2, .int .i64 b2] 25)
  have hl : w.heap.size + 2 < W3.heap.size := I3.lt
  clear I3 B3 Z3 Y3
  generalize W3.alloc (.cells #[.int .i64 a2, .int .i64 b2] 25) = W4 at *
  generalize W3.heap.size = H at *
  (refine (spec_l1Cur_time2.calls _ l at2 sd2 _ _ _ _ w _ I4 B4 E3.out).mono ?_)
  rintro e W5 ⟨rfl, I5, B5, K5⟩
  have Z5 := Z4.keep K5
  have Y5 := (K5.2 _ (blk_lt Y4) (by omega) (by simp)).trans Y4
  have X5 := (K5.2 _ (blk_lt x4) (by omega) (by simp)).trans x4
  clear I4 B4 Z4 K5 Y4 x4 I5
  have d0 := qh Y5 0
  have d1 := qh Y5 1
  have x0 := qh X5 0
  have x1 := qh X5 1
  have cA0 := qh Z5.1 0
  have cA1 := qh Z5.1 1
  have cB0 := qh Z5.2 0
  have cB1 := qh Z5.2 1
  have fA0 := qg Z5.1 0
  have fA1 := qg Z5.1 1
  have fB0 := qg Z5.2 0
  have fB1 := qg Z5.2 1
  have ZZ := jb.mk Z5
  have BB := jb.mk B5
  simp at d0 d1 x0 x1 cA0 cA1 cB0 cB1
  clear Z5 Y5 X5 B5
  go_upto_region 5 with fail
  go_region_held3 (fun w' => (w'.cell? ⟨G, 0, none⟩ = some (.int .i64 a1) ∧ w'.cell? ⟨G, 1, none⟩ = some (.int .i64 b1)) ∧ (w'.cell? ⟨H, 0, none⟩ = some (.int .i64 a2) ∧ w'.cell? ⟨H, 1, none⟩ = some (.int .i64 b2)))
    (first | exact ⟨⟨d0, d1⟩, ⟨x0, x1⟩⟩ | assumption | exact far22S (by first | assumption | exact ⟨⟨d0, d1⟩, ⟨x0, x1⟩⟩) (by omega) (by omega) _ _)
    (fail)
  all_goals
    have yA1 := blk_far (blk_far (blk_set (blk_set ZZ.out.1 0 (.int .i64 a1)) 1 (.int .i64 b1)) (p := ⟨w.heap.size + 1, 0, none⟩) (by simp) (.int .i64 a2)) (p := ⟨w.heap.size + 1, 1, none⟩) (by simp) (.int .i64 b2)
    have yA2 := blk_set (blk_set (blk_far (blk_far ZZ.out.2 (p := ⟨w.heap.size, 0, none⟩) (by simp) (.int .i64 a1)) (p := ⟨w.heap.size, 1, none⟩) (by simp) (.int .i64 b1)) 0 (.int .i64 a2)) 1 (.int .i64 b2)
    have yB2 := blk_far (blk_far (blk_set (blk_set ZZ.out.2 0 (.int .i64 a2)) 1 (.int .i64 b2)) (p := ⟨w.heap.size, 0, none⟩) (by simp) (.int .i64 a1)) (p := ⟨w.heap.size, 1, none⟩) (by simp) (.int .i64 b1)
    have yB1 := blk_set (blk_set (blk_far (blk_far ZZ.out.1 (p := ⟨w.heap.size + 1, 0, none⟩) (by simp) (.int .i64 a2)) (p := ⟨w.heap.size + 1, 1, none⟩) (by simp) (.int .i64 b2)) 0 (.int .i64 a1)) 1 (.int .i64 b1)
    have g0 := jb.mk (qh yA1 0)
    have g1 := jb.mk (qh yA1 1)
    have g2 := jb.mk (qh yA2 0)
    have g3 := jb.mk (qh yA2 1)
    have k0 := jb.mk (qh yB1 0)
    have k1 := jb.mk (qh yB1 1)
    have k2 := jb.mk (qh yB2 0)
    have k3 := jb.mk (qh yB2 1)
    clear yA1 yA2 yB1 yB2
    go_wp2_with fail
    have g0 := g0.out
    have g1 := g1.out
    have g2 := g2.out
    have g3 := g3.out
    have k0 := k0.out
    have k1 := k1.out
    have k2 := k2.out
    have k3 := k3.out
    simp at g0 g1 g2 g3 k0 k1 k2 k3
    refine bodyPost_ret (v := .tuple #[.agg #[.int .i64 a1, .int .i64 b1], .agg #[.int .i64 a2, .int .i64 b2], .int .i64 a3, .int .i64 b3]) (by simp [results, Tryz.results23, go_sem, g0, g1, g2, g3, k0, k1, k2, k3]) rfl ⟨a1, b1, a2, b2, a3, b3, rfl, ?_⟩
    first
      | exact qc ((((BB.out.setCell (Nat.le_refl _) _).setCell (Nat.le_refl _) _).setCell (by simp) _).setCell (by simp) _)
      | exact qc ((((BB.out.setCell (by simp) _).setCell (by simp) _).setCell (by simp) _).setCell (by simp) _)
theorem C_row2 {w : World} {g : Nat} (a b a' b' : Int) (h : w.heap[g]? = some (.cells #[.int .i64 a, .int .i64 b, .int .i64 a', .int .i64 b'] 25 (0, 0))) : Kd.C k25 w (some ⟨g, 0, none⟩) 2 [⟨a, b⟩, ⟨a', b'⟩] := by
  refine ⟨rfl, by decide, fun _ => ⟨⟨g, 0, none⟩, rfl, fun j p hj => ?_⟩⟩
  have q : ∀ n, w.cell? ((⟨g, 0, none⟩ : Addr).add n) = #[Value.int .i64 a, .int .i64 b, .int .i64 a', .int .i64 b'][n]? := fun n => by
    have := qh h n
    rw [show (⟨g, 0, none⟩ : Addr).add n = ⟨g, n, none⟩ by simp [Addr.add]; intro h; exact h.symm]
    exact this
  refine ⟨[.int .i64 p.f0, .int .i64 p.f1], rfl, ⟨[.int .i64 p.f0], [.int .i64 p.f1], rfl, rfl, rfl⟩, fun i u hi => ?_⟩
  have e : (k25).sz = 2 := rfl
  rw [e, q]
  match j, hj with
  | 0, hj =>
    simp at hj; subst hj
    match i, hi with
    | 0, hi => simpa using hi
    | 1, hi => simpa using hi
    | i + 2, hi => simp at hi
  | 1, hj =>
    simp at hj; subst hj
    match i, hi with
    | 0, hi => simpa using hi
    | 1, hi => simpa using hi
    | i + 2, hi => simp at hi
  | j + 2, hj => simp at hj
/-- What a drawn text holds. -/
def DrwStr (w : World) (e : Ending) (w' : World) : Prop := ∃ s : ByteArray, e = .returned (.string s) ∧ s.size ≤ 1000 ∧ Below w.heap.size w w'
set_option maxHeartbeats 4000000 in
set_option maxRecDepth 100000 in
theorem drawPW (hT : ∀ u d u' d' : Int, (-8 ≤ u ∧ u ≤ 16) → (-5 ≤ d ∧ d ≤ 5) → (-8 ≤ u' ∧ u' ≤ 16) → (-5 ≤ d' ∧ d' ≤ 5) → ∃ s, spec_meText.f 200 [⟨u, d⟩, ⟨u', d'⟩] = some s ∧ s.size ≤ 900)
    (A : Option Addr) (c : Nat) (l : List Int) (hc8 : Code8 l) (w : World) (hr : Kd.C (Kd.int .u8) w A l.length l) :
    Calls Tryz.prog 26 #[.slice A l.length c] w (DrwStr w) := by
  obtain ⟨a1, b1, at1, sd1, e1, p1, q1, x1, y1⟩ := t_sureWalker l hc8 0 0 (by omega) (by omega)
  obtain ⟨a2, b2, at2, sd2, e2, p2, q2, x2, y2⟩ := t_sureWalker l hc8 at1 sd1 (by omega) (by omega)
  obtain ⟨s, es, hs⟩ := hT a1 b1 a2 b2 x1 y1 x2 y2
  obtain ⟨r3, at3, sd3, e3, p3, q3⟩ := t_one l hc8 at2 sd2 3 (by omega) (by omega) (by omega)
  obtain ⟨t, at4, sd4, e4, p4, q4, ht⟩ := t_spoilt 100 (by omega) l hc8 at3 sd3 s ⟨#[48, 49, 50, 45, 58, 44, 120]⟩ hs (by decide) (by decide) (by omega) (by omega)
  have E1 := jb.mk e1
  have E2 := jb.mk e2
  have E3 := jb.mk e3
  have E4 := jb.mk e4
  have HM := jb.mk (show ∀ (W : World) (A : Option Addr), Kd.C k25 W A 2 [⟨a1, b1⟩, ⟨a2, b2⟩] → Calls Tryz.prog 46 #[.slice A 2 2] W fun e w' => e = .returned (.string s) ∧ Below W.heap.size W w' from fun W A h => spec_meText.calls 200 A 2 [⟨a1, b1⟩, ⟨a2, b2⟩] s W h (Nat.le_refl _) es)
  have HS := jb.mk hs
  have HT := jb.mk ht
  have HR := jb.mk hr
  clear e1 e2 p1 q1 p2 q2 hr hc8 x1 y1 x2 y2 hT e3 e4 p3 q3 p4 q4 es hs ht
  have hu25 := Tryz.underlying25
  go_enter Tryz.func26, Tryz.ntmps26
  go_wp2_with fail
  obtain ⟨b0, i0⟩ := cur_box w A c l 57
  have I0 : jg w _ w.heap.size l 0 0 := ⟨A, c, i0, by omega, HR.out⟩
  clear i0
  (refine (spec_l1Cur_sureWalker.calls _ l 0 0 _ _ _ _ w _ I0 b0 E1.out).mono ?_)
  rintro e W1 ⟨rfl, I1, B1, K1⟩
  clear I0 b0 K1
  go_wp2_with fail
  have I2 := I1.alloc (.cells #[.int .i64 a1, .int .i64 b1] 25)
  have B2 := qb B1 (.cells #[.int .i64 a1, .int .i64 b1] 25)
  have y2 := heap_alloc_new W1 (.cells #[.int .i64 a1, .int .i64 b1] 25)
  have gl : w.heap.size < W1.heap.size := I1.lt
  clear I1 B1
  generalize W1.alloc (.cells #[.int .i64 a1, .int .i64 b1] 25) = W2 at *
  generalize W1.heap.size = G at *
  have d0 := qh y2 0
  have d1 := qh y2 1
  simp at d0 d1
  have Y2 := jb.mk y2
  clear y2
  go_region_held3 (fun w' => w'.cell? ⟨G, 0, none⟩ = some (.int .i64 a1) ∧ w'.cell? ⟨G, 1, none⟩ = some (.int .i64 b1))
    (first | exact ⟨d0, d1⟩ | assumption | exact ⟨qh Y5.out 0, qh Y5.out 1⟩ | exact ⟨qh (qe Y3.out _) 0, qh (qe Y3.out _) 1⟩ | exact ⟨qh Y3.out 0, qh Y3.out 1⟩)
    (first
      | ((go_at_call 52; (with_reducible refine (spec_l1Cur_sureWalker.calls _ l at1 sd1 _ _ _ _ w _ I2.drew (qc B2) E2.out).mono ?_); rintro e W3 ⟨rfl, I3, B3, K3⟩; have Y3 := jb.mk ((K3.2 _ (blk_lt Y2.out) (by omega) (by simp)).trans Y2.out); have B5 := jb.mk B3; have I5 := jb.mk I3; clear I3 B3 K3))
      | ((go_at_call 46; (with_reducible refine (HM.out _ _ (C_row2 a1 b1 a2 b2 (heap_alloc_new W3 _))).mono ?_); rintro e W4 ⟨rfl, B4⟩; have Y5 := jb.mk (qu (qe Y3.out _) B4); have I6 := jb.mk ((I5.out.alloc (.cells #[.int .i64 a1, .int .i64 b1, .int .i64 a2, .int .i64 b2] 25)).below B4); have B6 := jb.mk ((qb B5.out (.cells #[.int .i64 a1, .int .i64 b1, .int .i64 a2, .int .i64 b2] 25)).trans (B4.mono (qb B5.out _).size)); clear B4))
      | fail)
  go_wp2_with fail
  (refine (spec_l1Cur_one.calls _ l at2 sd2 3 _ _ _ w _ I6.out B6.out E3.out).mono ?_)
  rintro e W7 ⟨rfl, I7, B7, K7⟩
  clear K7
  cases r3
  · have B8 := jb.mk B7
    clear I7 B7
    go_wp2_with fail
    refine bodyPost_ret (v := .string s) (by simp [results, Tryz.results26, go_sem]) rfl ⟨s, rfl, by have := HS.out; omega, B8.out⟩
  · go_wp2_with fail
    (refine (spec_l1Cur_spoilt.calls 100 _ l at3 sd3 s _ _ _ _ w _ I7 B7 E4.out).mono ?_)
    rintro e W8 ⟨rfl, I8, B8, K8⟩
    have B9 := jb.mk B8
    clear I7 B7 I8 B8 K8
    go_wp2_with fail
    refine bodyPost_ret (v := .string t) (by simp [results, Tryz.results26, go_sem]) rfl ⟨t, rfl, HT.out, B9.out⟩
end Go.Proofs.YtoideilmkcpilaaGreatDoor.DrawP
