/- The functions that draw: each answers. -/
import Derived.Test.YtbbglmoenjdloaaDrawPS
import Derived.Laws.BitsAllLaws
import Derived.WalkKit
namespace Go.Proofs.Ytbbglmoenjdloaa.DrawP
open Go.RowKit Go.Proofs.Ytbbglmoenjdloaa.OFnSnailsRace Go.Proofs.YtbbglmoenjdloaaW.PrintWords Go.Proofs.YtbbglmoenjdloaaW.PrintLast Go.Proofs.YtbbglmoenjdloaaW.PrintMore
set_option linter.unusedVariables false
set_option linter.unusedSimpArgs false
/-- Two result boxes lie in the world, zero. -/
def Zb (w W : World) (T : TypeId) : Prop := W.heap[w.heap.size]? = some (.cells #[.int .i64 0, .int .i64 0] T (0, 0)) ∧ W.heap[w.heap.size + 1]? = some (.cells #[.int .i64 0, .int .i64 0] T (0, 0))
theorem Zb.keep {w W W' : World} {T : TypeId} (h : Zb w W T) (hk : KeepBut W W' (w.heap.size + 2) none) : Zb w W' T :=
  ⟨(hk.2 _ (blk_lt h.1) (by omega) (by simp)).trans h.1, (hk.2 _ (blk_lt h.2) (by omega) (by simp)).trans h.2⟩
theorem two_boxes (w : World) (A : Option Addr) (c : Nat) (l : List Int) (T S : TypeId) :
    Below w.heap.size w (((w.alloc (.cells #[.int .i64 0, .int .i64 0] T)).alloc (.cells #[.int .i64 0, .int .i64 0] T)).alloc (.cells #[.slice A l.length c, .int .i64 0, .int .u64 0] S)) ∧ Zb w (((w.alloc (.cells #[.int .i64 0, .int .i64 0] T)).alloc (.cells #[.int .i64 0, .int .i64 0] T)).alloc (.cells #[.slice A l.length c, .int .i64 0, .int .u64 0] S)) T ∧
    (((w.alloc (.cells #[.int .i64 0, .int .i64 0] T)).alloc (.cells #[.int .i64 0, .int .i64 0] T)).alloc (.cells #[.slice A l.length c, .int .i64 0, .int .u64 0] S)).heap[w.heap.size + 2]? = some (.cells #[.slice A l.length c, .int .i64 0, .int .u64 0] S (0, 0)) := by
  have h1 := heap_alloc_new w (.cells #[.int .i64 0, .int .i64 0] T)
  have h2 := heap_alloc_new (w.alloc (.cells #[.int .i64 0, .int .i64 0] T)) (.cells #[.int .i64 0, .int .i64 0] T)
  have h3 := heap_alloc_new ((w.alloc (.cells #[.int .i64 0, .int .i64 0] T)).alloc (.cells #[.int .i64 0, .int .i64 0] T)) (.cells #[.slice A l.length c, .int .i64 0, .int .u64 0] S)
  rw [World.size_alloc] at h2
  rw [World.size_alloc, World.size_alloc] at h3
  exact ⟨below_alloc (below_alloc (below_alloc (Below.refl _ _) _) _) _, ⟨blk_alloc (blk_alloc h1 _) _, blk_alloc h2 _⟩, h3⟩
/-- What a drawn row of lead's answers holds. -/
def DrwLead (w : World) (e : Ending) (w' : World) : Prop := ∃ s0 s1 t0 t1 wall day : Int, e = .returned (.tuple #[.agg #[.int .i64 s0, .int .i64 s1], .agg #[.int .i64 t0, .int .i64 t1], .int .i64 wall, .int .i64 day]) ∧ Below w.heap.size w w'
set_option maxHeartbeats 4000000 in
set_option maxRecDepth 100000 in
theorem drawLead (A : Option Addr) (c : Nat) (l : List Int) (hc8 : Code8 l) (w : World) (hr : Kd.C (Kd.int .u8) w A l.length l) :
    Calls Try.prog 34 #[.slice A l.length c] w (DrwLead w) := by
  obtain ⟨a1, b1, at1, sd1, e1, p1, q1⟩ := t_snail l hc8 0 0 (by omega) (by omega)
  obtain ⟨a2, b2, at2, sd2, e2, p2, q2⟩ := t_snail l hc8 at1 sd1 (by omega) (by omega)
  obtain ⟨a3, at3, sd3, e3, p3, q3⟩ := t_wall l hc8 at2 sd2 (by omega) (by omega)
  obtain ⟨a4, at4, sd4, e4, p4, q4⟩ := t_day l hc8 at3 sd3 (by omega) (by omega)
  have E1 := Aside0.mk e1
  have E2 := Aside0.mk e2
  have E3 := Aside0.mk e3
  have E4 := Aside0.mk e4
  have HR := Aside0.mk hr
  clear e1 e2 e3 e4 p1 q1 p2 q2 p3 q3 p4 q4 hr hc8
  have hu26 := Try.underlying26
  go_enter Try.func34, Try.ntmps34
  go_wp2_with fail
  obtain ⟨b0, z0, i0⟩ := two_boxes w A c l 26 62
  have I0 : IsS62 w _ (w.heap.size + 2) l 0 0 := ⟨A, c, i0, by omega, HR.out⟩
  clear i0
  (refine (spec_l1Cur_snail.calls _ l 0 0 _ _ _ _ w _ I0 b0 E1.out).mono ?_)
  rintro e W1 ⟨rfl, I1, B1, K1⟩
  have Z1 := z0.keep K1
  clear I0 b0 z0 K1
  go_wp2_with fail
  (refine (spec_l1Cur_snail.calls _ l at1 sd1 _ _ _ _ w _ I1 B1 E2.out).mono ?_)
  rintro e W2 ⟨rfl, I2, B2, K2⟩
  have Z2 := Z1.keep K2
  clear I1 B1 Z1 K2
  go_wp2_with fail
  (refine (spec_l1Cur_wall.calls _ l at2 sd2 _ _ _ w _ I2 B2 E3.out).mono ?_)
  rintro e W3 ⟨rfl, I3, B3, K3⟩
  have Z3 := Z2.keep K3
  clear I2 B2 Z2 K3
  go_wp2_with fail
  (refine (spec_l1Cur_day.calls _ l at3 sd3 _ _ _ w _ I3 B3 E4.out).mono ?_)
  rintro e W4 ⟨rfl, I4, B4, K4⟩
  have Z4 := Z3.keep K4
  clear I3 B3 Z3 K4 I4
  have cA0 := blk_cell Z4.1 0
  have cA1 := blk_cell Z4.1 1
  have cB0 := blk_cell Z4.2 0
  have cB1 := blk_cell Z4.2 1
  have fA0 := blk_frozen Z4.1 0
  have fA1 := blk_frozen Z4.1 1
  have fB0 := blk_frozen Z4.2 0
  have fB1 := blk_frozen Z4.2 1
  have B5 := Aside0.mk B4
  have y1 := blk_far (blk_far (blk_set (blk_set Z4.1 0 (.int .i64 a1)) 1 (.int .i64 b1)) (p := ⟨w.heap.size + 1, 0, none⟩) (by simp) (.int .i64 a2)) (p := ⟨w.heap.size + 1, 1, none⟩) (by simp) (.int .i64 b2)
  have y2 := blk_set (blk_set (blk_far (blk_far Z4.2 (p := ⟨w.heap.size, 0, none⟩) (by simp) (.int .i64 a1)) (p := ⟨w.heap.size, 1, none⟩) (by simp) (.int .i64 b1)) 0 (.int .i64 a2)) 1 (.int .i64 b2)
  have g0 := Aside0.mk (blk_cell y1 0)
  have g1 := Aside0.mk (blk_cell y1 1)
  have g2 := Aside0.mk (blk_cell y2 0)
  have g3 := Aside0.mk (blk_cell y2 1)
  clear B4 Z4 y1 y2
  simp at cA0 cA1 cB0 cB1
  go_wp2_with fail
  have g0 := g0.out
  have g1 := g1.out
  have g2 := g2.out
  have g3 := g3.out
  simp at g0 g1 g2 g3
  refine bodyPost_ret (v := .tuple #[.agg #[.int .i64 a1, .int .i64 b1], .agg #[.int .i64 a2, .int .i64 b2], .int .i64 a3, .int .i64 a4]) (by simp [results, Try.results34, go_sem, g0, g1, g2, g3]) rfl ⟨a1, b1, a2, b2, a3, a4, rfl, ?_⟩
  exact (((B5.out.setCell (Nat.le_refl _) _).setCell (Nat.le_refl _) _).setCell (by simp) _).setCell (by simp) _
theorem C_row {w : World} {g : Nat} (l : List Int) (h : w.heap[g]? = some (.cells (l.map (Value.int .i64)).toArray 3 (0, 0))) (hl : l.length ≤ 1000) : Kd.C (Kd.int .i64) w (some ⟨g, 0, none⟩) l.length l := by
  refine ⟨rfl, by omega, fun _ => ⟨⟨g, 0, none⟩, rfl, fun j p hj => ?_⟩⟩
  refine ⟨[.int .i64 p], rfl, rfl, fun i u hi => ?_⟩
  match i, hi with
  | 0, hi =>
    simp at hi
    have hjl := (List.getElem?_eq_some_iff.1 hj).1
    have := blk_cell h j
    have e : (Kd.int .i64).sz = 1 := rfl
    rw [e, Nat.mul_one, Nat.add_zero, show (⟨g, 0, none⟩ : Addr).add j = ⟨g, j, none⟩ by simp [Addr.add]; intro h; exact h.symm, this, ← hi]
    simp [hj]
  | i + 1, hi => simp at hi
theorem one_box (w : World) (A : Option Addr) (c : Nat) (l : List Int) (S : TypeId) (xs : List Int) :
    Below w.heap.size w ((w.alloc (.cells #[.slice A l.length c, .int .i64 0, .int .u64 0] S)).alloc (.cells (xs.map (Value.int .i64)).toArray 3)) ∧
    ((w.alloc (.cells #[.slice A l.length c, .int .i64 0, .int .u64 0] S)).alloc (.cells (xs.map (Value.int .i64)).toArray 3)).heap[w.heap.size]? = some (.cells #[.slice A l.length c, .int .i64 0, .int .u64 0] S (0, 0)) ∧
    ((w.alloc (.cells #[.slice A l.length c, .int .i64 0, .int .u64 0] S)).alloc (.cells (xs.map (Value.int .i64)).toArray 3)).heap[w.heap.size + 1]? = some (.cells (xs.map (Value.int .i64)).toArray 3 (0, 0)) := by
  have h1 := heap_alloc_new w (.cells #[.slice A l.length c, .int .i64 0, .int .u64 0] S)
  have h2 := heap_alloc_new (w.alloc (.cells #[.slice A l.length c, .int .i64 0, .int .u64 0] S)) (.cells (xs.map (Value.int .i64)).toArray 3)
  rw [World.size_alloc] at h2
  exact ⟨below_alloc (below_alloc (Below.refl _ _) _) _, blk_alloc h1 _, h2⟩
def DrwDays (w : World) (e : Ending) (w' : World) : Prop := ∃ (up wall : Int) (s : List Int) (A : Option Addr) (c base : Nat) (ok : Nat → Prop), e = .returned (.tuple #[.int .i64 up, .slice A s.length c, .int .i64 wall]) ∧ Kd.R (Kd.int .i64) 3 w' base ok (.slice A s.length c) s ∧ w.heap.size ≤ base ∧ Below w.heap.size w w'
set_option maxHeartbeats 4000000 in
set_option maxRecDepth 100000 in
theorem drawDays (A : Option Addr) (c : Nat) (l : List Int) (hc8 : Code8 l) (w : World) (hr : Kd.C (Kd.int .u8) w A l.length l) :
    Calls Try.prog 60 #[.slice A l.length c] w (DrwDays w) := by
  obtain ⟨a1, at1, sd1, e1, _, p1, q1⟩ := t_among l hc8 0 0 [1, 2, 3, 4, 5, 7, 1000, 1001, 0] (by simp) (by simp) (by omega) (by omega)
  obtain ⟨s, at2, sd2, e2, p2, q2⟩ := t_slips l hc8 at1 sd1 (by omega) (by omega)
  obtain ⟨a3, at3, sd3, e3, p3, q3⟩ := t_wall l hc8 at2 sd2 (by omega) (by omega)
  have E1 := Aside0.mk e1
  have E2 := Aside0.mk e2
  have E3 := Aside0.mk e3
  have HR := Aside0.mk hr
  clear e1 e2 e3 p1 q1 p2 q2 p3 q3 hr hc8
  go_enter Try.func60, Try.ntmps60
  go_wp2_with fail
  obtain ⟨b0, i0, r0⟩ := one_box w A c l 62 [1, 2, 3, 4, 5, 7, 1000, 1001, 0]
  have I0 : IsS62 w _ w.heap.size l 0 0 := ⟨A, c, i0, by omega, HR.out⟩
  have R0 := C_row _ r0 (by simp)
  clear i0 r0
  (refine (spec_l1Cur_among.calls _ l 0 0 _ _ [1, 2, 3, 4, 5, 7, 1000, 1001, 0] _ _ _ w _ I0 b0 R0 (by simp) (by intro ad h _; cases h; simp) E1.out).mono ?_)
  rintro e W1 ⟨rfl, I1, B1, K1⟩
  clear I0 b0 R0 K1
  go_wp2_with fail
  (refine (spec_l1Cur_slips.calls 100 _ l at1 sd1 _ _ _ w _ I1 B1 E2.out).mono ?_)
  rintro e W2 ⟨v, rfl, R2, I2, B2, K2⟩
  obtain ⟨As, cs, rfl, hcs, C2⟩ := Kd.R_reads R2
  have N2 : ∀ k, (Value.slice As s.length cs).ownBlock = some k → k ≠ w.heap.size := fun k hk => by
    have := (Kd.R_bound R2).1 k hk
    have z := I1.lt
    omega
  clear C2
  have R3 := Kd.R_mono (Kd.R_bound R2) (ok' := fun k => k ≠ w.heap.size) (fun k hk => by have z := I1.lt; omega)
  clear R2 N2 I1 K2
  go_wp2_with fail
  (refine (spec_l1Cur_wall.calls _ l at2 sd2 _ _ _ w _ I2 B2 E3.out).mono ?_)
  rintro e W3 ⟨rfl, I3, B3, K3⟩
  have R4 := Kd.R_keep R3 K3 (fun k hk => hk)
  have C5 := Aside0.mk R4
  have B5 := Aside0.mk B3
  have S5 := Aside0.mk B1.size
  clear R4 B3 I3 K3 R3 I2 B2 B1
  go_wp2_with fail
  refine bodyPost_ret (v := .tuple #[.int .i64 a1, .slice As s.length cs, .int .i64 a3]) (by simp [results, Try.results60, go_sem]) rfl ⟨a1, a3, s, As, cs, _, _, rfl, C5.out, S5.out, B5.out⟩
def DrwHeights (w : World) (e : Ending) (w' : World) : Prop := ∃ (up wall day : Int) (s : List Int) (A : Option Addr) (c : Nat), e = .returned (.tuple #[.int .i64 up, .slice A s.length c, .int .i64 wall, .int .i64 day]) ∧ s.length ≤ c ∧ Kd.C (Kd.int .i64) w' A s.length s ∧ Below w.heap.size w w'
set_option maxHeartbeats 4000000 in
set_option maxRecDepth 100000 in
theorem drawHeights (A : Option Addr) (c : Nat) (l : List Int) (hc8 : Code8 l) (w : World) (hr : Kd.C (Kd.int .u8) w A l.length l) :
    Calls Try.prog 35 #[.slice A l.length c] w (DrwHeights w) := by
  obtain ⟨a4, at4, sd4, e4, p4, q4⟩ := t_day l hc8 0 0 (by omega) (by omega)
  have E4 := Aside0.mk e4
  have HR := Aside0.mk hr
  clear e4 p4 q4 hr
  go_enter Try.func35, Try.ntmps35
  go_wp2_with fail
  have b0 := below_alloc (Below.refl w.heap.size w) (.cells #[.slice A l.length c, .int .i64 0, .int .u64 0] 62)
  have i0 := heap_alloc_new w (.cells #[.slice A l.length c, .int .i64 0, .int .u64 0] 62)
  have I0 : IsS62 w _ w.heap.size l 0 0 := ⟨A, c, i0, by omega, HR.out⟩
  clear i0
  (refine (drawDays A c l hc8 _ (Kd.C_below HR.out b0)).mono ?_)
  rintro e W1 ⟨up, wall, s, As, cs, base, ok, rfl, R1, hbase, B1⟩
  have I1 := I0.below B1
  have B2 := b0.trans (B1.mono b0.size)
  rw [World.size_alloc] at hbase
  have R2 := Kd.R_mono (Kd.R_bound R1) (ok' := fun k => k ≠ w.heap.size) (fun k hk => by have := hk.2.1; omega)
  clear I0 b0 R1
  go_wp2_with fail
  (refine (spec_l1Cur_day.calls _ l 0 0 _ _ _ w _ I1 B2 E4.out).mono ?_)
  rintro e W2 ⟨rfl, I2, B3, K2⟩
  have R4 := Kd.R_keep R2 K2 (fun k hk => hk)
  obtain ⟨hz, hcs, C4⟩ := Kd.R_reads' R4
  have C5 := Aside0.mk C4
  have B5 := Aside0.mk B3
  have L5 := Aside0.mk hcs
  clear R4 C4 B3 I2 K2 R2 I1 B2 B1 hcs hz
  go_wp2_with fail
  refine bodyPost_ret (v := .tuple #[.int .i64 up, .slice As s.length cs, .int .i64 wall, .int .i64 a4]) (by simp [results, Try.results35, go_sem]) rfl ⟨up, wall, a4, s, As, cs, rfl, L5.out, C5.out, B5.out⟩
end Go.Proofs.Ytbbglmoenjdloaa.DrawP
