/- The law FnWalkersRound: contracts of functions, written by a program (after the kit's print). -/
import Derived.Test.YtfaccdafldbjcaaGreatOFnWalkersRoundx0
import Derived.Test.YtfaccdafldbjcaaGreatOFnWalkersRoundx2
import Derived.Test.YtfaccdafldbjcaaGreatOFnWalkersRoundx7
namespace Go.Proofs.YtfaccdafldbjcaaGreat.OFnWalkersRound
open Go.RowKit Go.Proofs.YtfaccdafldbjcaaGreatW.PrintWords Go.Proofs.YtfaccdafldbjcaaGreatW.PrintLast Go.Proofs.YtfaccdafldbjcaaGreatW.PrintMore
attribute [local go_sem] max2_int min2_int max_two min_two max_three min_three max_four min_four   -- for this text's walks alone
set_option linter.unusedVariables false
set_option linter.unusedSimpArgs false
open List (setIfInBounds_toArray set_cons_zero set_cons_succ)

/-! ### spec_AllAtStart: function 27 -/
mutual
def spec_AllAtStart.j0 : Nat → Int → List (S25) → Bool → Option (Int × Int × Bool)
 | 0, _, _, _ => none
 | k + 1, x0, x1, x21 => if x21 = true then (some (0, 0, false)) else (spec_AllAtStart.l0 k x0 0 x1 (x1.length : Int) 0)
def spec_AllAtStart.l0 : Nat → Int → Int → List (S25) → Int → Int → Option (Int × Int × Bool)
 | 0, _, _, _, _, _ => none
 | k + 1, x0, x7, x22, x23, x24 => if x24 < x23 then (if 0 ≤ x24 then (if x24 < (x22.length : Int) then ((spec_l1Abs.f ((je x22 x24).f1)).bind fun t568 => (spec_AllAtStart.l1 k x0 x7 t568 x22 x23 x24)) else (none)) else (none)) else (if x7 = 0 then (some (0, 0, false)) else ((spec_meLow.f k x0 x7).bind fun bt564 => (some (bt564.1, bt564.2, true))))
def spec_AllAtStart.l1 : Nat → Int → Int → Int → List (S25) → Int → Int → Option (Int × Int × Bool)
 | 0, _, _, _, _, _, _ => none
 | k + 1, x0, x10, x11, x22, x23, x24 => if x11 > 0 then (if x11 = 0 then (none) else (spec_AllAtStart.l1 k x0 x11 (Int.tmod x10 x11) x22 x23 x24)) else (spec_AllAtStart.l0 k x0 x10 x22 x23 (wrap64 (x24 + 1)))
end
def spec_AllAtStart.f (k : Nat) (a0 : Int) (l1 : List (S25)) : Option (Int × Int × Bool) := (spec_l1In.f a0 1 1000).bind fun t562 => (if t562 = true then ((spec_meAll.f k l1).bind fun t563 => (spec_AllAtStart.j0 k a0 l1 (!t563))) else (spec_AllAtStart.j0 k a0 l1 true))
set_option maxHeartbeats 8000000 in
set_option maxRecDepth 100000 in
theorem spec_AllAtStart.calls (k : Nat) (a0 : Int) (A1 : Option Addr) (c1 : Nat) (l1 : List (S25)) (r1 : Int) (r2 : Int) (r3 : Bool) (w : World) (hr1 : Kd.C k25 w A1 l1.length l1) (hc1 : l1.length ≤ c1) (h : spec_AllAtStart.f k a0 l1 = some (r1, r2, r3)) :
  Calls Tryz.prog 27 #[.int .i64 a0, .slice A1 l1.length c1] w fun e w' => e = .returned (.tuple #[.int .i64 r1, .int .i64 r2, .bool r3]) ∧ Below w.heap.size w w' := by
 have hu25 := Tryz.underlying25; have HR1 := jb.mk hr1; have HC1 := jb.mk hc1; clear hr1 hc1; have HB := jb.mk (Below.refl w.heap.size w); have H : ((spec_l1In.f a0 1 1000).bind fun t562 => (if t562 = true then ((spec_meAll.f k l1).bind fun t563 => (spec_AllAtStart.j0 k a0 l1 (!t563))) else (spec_AllAtStart.j0 k a0 l1 true))) = some (r1, r2, r3) := h; clear h; have HC3 := jb.mk H; clear H; go_enter Tryz.func27, Tryz.ntmps27
 go_upto_region 1 with (fail)
 repeat (go_quiet (fail); go_upto_region 1 with (fail))
 go_cut [21] (fun v21 wc => ∃ (kq : Nat) (x21_2 : Bool), v21 = .bool x21_2 ∧ jb (spec_AllAtStart.j0 kq a0 l1 x21_2 = some (r1, r2, r3)) ∧ jb (kq ≤ k) ∧ jb (Below w.heap.size w wc))
 case first =>
  have H := HC3.1; clear HC3; replace H := Option.bind_eq_some_iff.mp H; obtain ⟨t562, A40, H⟩ := H
  try dsimp only at H
  have A4 := jb.mk A40; clear A40
  by_cases c5 : t562 = true
  ·subst c5; rw [if_pos rfl] at H; replace H := Option.bind_eq_some_iff.mp H; obtain ⟨t563, A60, H⟩ := H
   try dsimp only at H
   have A6 := jb.mk A60; clear A60; have H' := jb.mk H; clear H
   go_wp2_with (first | (go_at_call 46; (with_reducible refine (spec_l1In.calls a0 1 1000 true _ A4.1).mono ?_); rintro e w' ⟨rfl, ⟨nd, rfl⟩⟩; (try first | exact ⟨rfl, _, World.drewN_drewN _ _ _⟩ | exact ⟨rfl, _, Eq.trans (World.drewN_drewN _ _ _) (congrArg (World.drewN _) (Nat.add_assoc _ _ _))⟩)) | (go_at_call 55; (with_reducible refine (spec_meAll.calls k _ _ l1 t563 _ ?side1 ?side2 A6.1).mono ?_); (case side1 => repeat (first | exact (Kd.C_below HR1.1 (by repeat (first | (with_reducible first | exact HB.1 | apply qb | apply qa | apply qc) | exact HB.1))) | (with_reducible refine Kd.C_alloc ?_ _) | (with_reducible refine Kd.C_drewN ?_ _) | (with_reducible refine Kd.C_drew ?_))); (case side2 => exact HC1.1); rintro e w7 ⟨rfl, hb⟩; have n0_ := jb.mk (qk (by repeat (first | (with_reducible first | exact HB.1 | apply qb | apply qa | apply qc) | exact HB.1)) hb); clear HB; have HB := n0_; clear n0_; (try clear hb); (try clear hb2); (try clear hk); (try clear hi)))
   repeat (go_quiet (fail); try go_wp2_with (fail))
   go_meet
   case rel => exact ⟨_, (!t563), (by first | rfl | (simp; done) | (simp [*]; done)), H', ⟨by first | omega | exact Nat.le_refl _⟩, ⟨by repeat (first | (with_reducible first | exact HB.1 | apply qb | apply qa | apply qc) | exact HB.1)⟩⟩
  replace c5 := Bool.eq_false_iff.mpr c5; subst c5; rw [if_neg (show ¬ (false = true) by decide)] at H; have H' := jb.mk H; clear H
  go_wp2_with ((go_at_call 46; (with_reducible refine (spec_l1In.calls a0 1 1000 false _ A4.1).mono ?_); rintro e w' ⟨rfl, ⟨nd, rfl⟩⟩; (try first | exact ⟨rfl, _, World.drewN_drewN _ _ _⟩ | exact ⟨rfl, _, Eq.trans (World.drewN_drewN _ _ _) (congrArg (World.drewN _) (Nat.add_assoc _ _ _))⟩)))
  repeat (go_quiet (fail); try go_wp2_with (fail))
  go_meet
  case rel => exact ⟨_, (true), (by first | rfl | (simp; done) | (simp [*]; done)), H', ⟨by first | omega | exact Nat.le_refl _⟩, ⟨by repeat (first | (with_reducible first | exact HB.1 | apply qb | apply qa | apply qc) | exact HB.1)⟩⟩
 case rest =>
  clear HC3; (try clear c1); (try clear c2); (try clear p2); (try clear c5); obtain ⟨kq, x21_2, rfl, HA, HJ2, HB⟩ := hcut; cases kq with
  | zero => exact absurd HA.1 (by simp [spec_AllAtStart.j0])
  | succ kj2 =>
   have H := HA.1; clear HA; simp only [spec_AllAtStart.j0] at H
   by_cases c8 : x21_2 = true
   ·subst c8; rw [if_pos rfl] at H; simp only [Option.some.injEq, Prod.mk.injEq] at H; obtain ⟨rfl, rfl, rfl⟩ := H
    go_wp2
    repeat (go_quiet (fail); try go_wp2)
    go_ret3
    exact ⟨by first | rfl | (simp [qr, qq] <;> rfl) | (simp [*, qr, qq] <;> rfl), by repeat (first | (with_reducible first | exact HB.1 | apply qb | apply qa | apply qc) | exact HB.1)⟩
   replace c8 := Bool.eq_false_iff.mpr c8; subst c8; rw [if_neg (show ¬ (false = true) by decide)] at H; have H' := jb.mk H; clear H
   go_wp2
   repeat (go_quiet (fail); try go_wp2)
   go_loopg [7, 24] kj2 (fun kq v7 v24 w' => ∃ (x7_2 : Int) (x24_2 : Int), v7 = .int .i64 x7_2 ∧ v24 = .int .i64 x24_2 ∧ jb (spec_AllAtStart.l0 kq a0 x7_2 l1 (l1.length : Int) x24_2 = some (r1, r2, r3)) ∧ jb (kq ≤ kj2) ∧ jb (Below w.heap.size w w'))
   case atStart => exact ⟨(0), (0), (by first | rfl | (simp; done) | (simp [*]; done)), (by first | rfl | (simp; done) | (simp [*]; done)), H', ⟨Nat.le_refl _⟩, ⟨by repeat (first | (with_reducible first | exact HB.1 | apply qb | apply qa | apply qc) | exact HB.1)⟩⟩
   case round =>
    clear H'; (try clear c1); (try clear c2); (try clear p2); (try clear c5); (try clear c8); (try clear p2); obtain ⟨x7_2, x24_2, rfl, rfl, HA, HK2, HB⟩ := hrel; cases gk with
    | zero => exact absurd HA.1 (by simp [spec_AllAtStart.l0])
    | succ k2 =>
     have H := HA.1; clear HA; simp only [spec_AllAtStart.l0] at H
     by_cases c9 : x24_2 < (l1.length : Int)
     ·rw [if_pos c9] at H; have c9b0 : decide (x24_2 < (l1.length : Int)) = true := decide_eq_true c9; clear c9
      by_cases c10 : 0 ≤ x24_2
      ·rw [if_pos c10] at H; have c10b0 : decide (0 ≤ x24_2) = true := decide_eq_true c10; clear c10
       by_cases c11 : x24_2 < (l1.length : Int)
       ·rw [if_pos c11] at H; have c11b0 : decide (x24_2 < (l1.length : Int)) = true := decide_eq_true c11; clear c11; replace H := Option.bind_eq_some_iff.mp H; obtain ⟨t568, A120, H⟩ := H
        try dsimp only at H
        have A12 := jb.mk A120; clear A120; have H' := jb.mk H; clear H; have p566 : 0 ≤ (x24_2 : Int) := of_decide_eq_true (by first | (with_reducible assumption) | assumption); have q566 : x24_2 < (l1.length : Int) := of_decide_eq_true (by first | (with_reducible assumption) | assumption); obtain ⟨ad566, e566, hx566_0, hx566_1⟩ := at_T25 HR1.1 x24_2 p566 q566; cases e566; replace hx566_0 := (HB.1.cell (World.block_lt_of_cell? w _ hx566_0)).trans hx566_0; replace hx566_1 := (HB.1.cell (World.block_lt_of_cell? w _ hx566_1)).trans hx566_1; replace p566 := eq_true p566; replace q566 := eq_true q566
        go_wp2_with (first | ((with_reducible refine qv (N := 9) rfl ?_); refine qw ?hg (N := 9) ?hd (cs := #[.int .i64 0, .int .i64 0]) (t := 25) ?hr ?_; (case hd => rfl); (case hg => rfl); (case hr => first | (go_simp; done) | (go_simp; rfl)); intro gb567 hg w13 hbox hb; have n0_ := jb.mk (qk (by repeat (first | (with_reducible first | exact HB.1 | apply qb | apply qa | apply qc) | exact HB.1)) hb); have n1_ := jb.mk (hbox); have n2_ := jb.mk ((by rw [hg]; exact (ql (by repeat (first | (with_reducible first | exact HB.1 | apply qb | apply qa | apply qc) | exact HB.1))) : w.heap.size ≤ gb567)); have n3_ := jb.mk ((by rw [hg]; exact (ql (by repeat (first | (with_reducible first | exact HB.1 | apply qb | apply qa | apply qc) | exact HB.1))) : w.heap.size ≤ gb567)); clear HB; have HB := n0_; have BK567 := n1_; have GW567 := n2_; have GE567 := n3_; clear n0_ n1_ n2_ n3_; clear hb hbox hg; have hcz14_0 : w13.cell? ⟨gb567, 0, none⟩ = some (.int .i64 0) := (qh BK567.1 0).trans rfl; have hcz14_1 : w13.cell? ⟨gb567, 1, none⟩ = some (.int .i64 0) := (qh BK567.1 1).trans rfl; have hfz14_0 := qg BK567.1 0; have hfz14_1 := qg BK567.1 1) | (go_at_call 64; (with_reducible refine (spec_l1Abs.calls ((je l1 x24_2).f1) t568 _ A12.1).mono ?_); rintro e w' ⟨rfl, ⟨nd, rfl⟩⟩; (try first | exact ⟨rfl, _, World.drewN_drewN _ _ _⟩ | exact ⟨rfl, _, Eq.trans (World.drewN_drewN _ _ _) (congrArg (World.drewN _) (Nat.add_assoc _ _ _))⟩)))
        repeat (go_quiet (fail); try go_wp2_with (fail))
        go_loopg [10, 11] k2 (fun kq v10 v11 w' => ∃ (x10_3 : Int) (x11_3 : Int), v10 = .int .i64 x10_3 ∧ v11 = .int .i64 x11_3 ∧ jb (spec_AllAtStart.l1 kq a0 x10_3 x11_3 l1 (l1.length : Int) x24_2 = some (r1, r2, r3)) ∧ jb (kq ≤ k2) ∧ jb (w'.heap[gb567]? = some (.cells #[.int .i64 ((je l1 x24_2).f0), .int .i64 ((je l1 x24_2).f1)] 25 (0, 0))) ∧ jb (Below w.heap.size w w'))
        case atStart => exact ⟨(x7_2), (t568), (by first | rfl | (simp; done) | (simp [*]; done)), (by first | rfl | (simp; done) | (simp [*]; done)), H', ⟨Nat.le_refl _⟩, ⟨by (with_reducible repeat (first | refine qf ?_ _ | refine qi ?_ | refine qe ?_ _)); refine blk_put (cs := #[.int .i64 ((je l1 x24_2).f0), .int .i64 0]) ?_ 1 _ rfl; (with_reducible repeat (first | refine qf ?_ _ | refine qi ?_ | refine qe ?_ _)); refine blk_put (cs := #[.int .i64 0, .int .i64 0]) ?_ 0 _ rfl; (with_reducible repeat (first | refine qf ?_ _ | refine qi ?_ | refine qe ?_ _)); exact BK567.1⟩, ⟨by repeat (first | (with_reducible first | exact HB.1 | apply qb | apply qa | apply qc | refine qd ?_ GE567.out) | exact HB.1)⟩⟩
        case round =>
         clear H'; (try clear c1); (try clear c2); (try clear p2); (try clear c5); (try clear p5); (try clear q5); (try clear hx5); (try clear c8); (try clear c9); (try clear c9b0); (try clear c10); (try clear c10b0); (try clear c11); (try clear c11b0); (try clear hcz14_0); (try clear hcz14_1); (try clear hfz14_0); (try clear hfz14_1); (try clear hx566_0); (try clear hx566_1); (try clear p2); (try clear p566); (try clear q566); obtain ⟨x10_3, x11_3, rfl, rfl, HA, HK3, BK567, HB⟩ := hrel; cases gk with
         | zero => exact absurd HA.1 (by simp [spec_AllAtStart.l1])
         | succ k3 =>
          have H := HA.1; clear HA; simp only [spec_AllAtStart.l1] at H
          by_cases c15 : x11_3 > 0
          ·rw [if_pos c15] at H; have c15b0 : decide (0 < x11_3) = true := decide_eq_true c15; clear c15
           by_cases c16 : x11_3 = 0
           ·rw [if_pos c16] at H; exact absurd H (by simp)
           rw [if_neg c16] at H; have c16b0 : (x11_3 == 0) = false := beq_eq_false_iff_ne.mpr c16; have c16b1 : (x11_3 != 0) = true := bne_iff_ne.mpr c16; have H' := jb.mk H; clear H
           go_wp2
           repeat (go_quiet (fail); try go_wp2)
           go_roundg k3
           case measure => have := HJ2.1; have := HK2.1; have := HK3.1; omega
           case rel => exact ⟨(x11_3), (Int.tmod x10_3 x11_3), (by first | rfl | (simp; done) | (simp [*]; done)), (by first | rfl | (simp; done) | (simp [*]; done)), H', ⟨by have := HJ2.1; have := HK2.1; have := HK3.1; omega⟩, ⟨by (with_reducible repeat (first | refine qf ?_ _ | refine qi ?_ | refine qe ?_ _)); exact BK567.1⟩, ⟨by repeat (first | (with_reducible first | exact HB.1 | apply qb | apply qa | apply qc | refine qd ?_ GE567.out) | exact HB.1)⟩⟩
          rw [if_neg c15] at H; have c15b0 : decide (0 < x11_3) = false := decide_eq_false c15; clear c15; have H' := jb.mk H; clear H
          go_wp2
          repeat (go_quiet (fail); try go_wp2)
          go_roundg k3
          case measure => have := HJ2.1; have := HK2.1; have := HK3.1; omega
          case rel => exact ⟨(x10_3), (wrap64 (x24_2 + 1)), (by first | rfl | (simp; done) | (simp [*]; done)), (by first | rfl | (simp; done) | (simp [*]; done)), H', ⟨by have := HJ2.1; have := HK2.1; have := HK3.1; omega⟩, ⟨by repeat (first | (with_reducible first | exact HB.1 | apply qb | apply qa | apply qc | refine qd ?_ GE567.out) | exact HB.1)⟩⟩
       rw [if_neg c11] at H; exact absurd H (by simp)
      rw [if_neg c10] at H; exact absurd H (by simp)
     rw [if_neg c9] at H; have c9b0 : decide (x24_2 < (l1.length : Int)) = false := decide_eq_false c9; clear c9
     by_cases c17 : x7_2 = 0
     ·rw [if_pos c17] at H; have c17b0 : (x7_2 == 0) = true := beq_iff_eq.mpr c17; have c17b1 : (x7_2 != 0) = false := bne_eq_false_iff_eq.mpr c17; clear c17; simp only [Option.some.injEq, Prod.mk.injEq] at H; obtain ⟨rfl, rfl, rfl⟩ := H
      go_wp2
      repeat (go_quiet (fail); try go_wp2)
      go_ret3
      exact ⟨by first | rfl | (simp [qr, qq] <;> rfl) | (simp [*, qr, qq] <;> rfl), by repeat (first | (with_reducible first | exact HB.1 | apply qb | apply qa | apply qc) | exact HB.1)⟩
     rw [if_neg c17] at H; have c17b0 : (x7_2 == 0) = false := beq_eq_false_iff_ne.mpr c17; have c17b1 : (x7_2 != 0) = true := bne_iff_ne.mpr c17; replace H := Option.bind_eq_some_iff.mp H; obtain ⟨⟨t564, t565⟩, A180, H⟩ := H
     try dsimp only at H
     have A18 := jb.mk A180; clear A180; simp only [Option.some.injEq, Prod.mk.injEq] at H; obtain ⟨rfl, rfl, rfl⟩ := H
     go_wp2_with ((go_at_call 38; (with_reducible refine (spec_meLow.calls k2 a0 x7_2 t564 t565 _ A18.1).mono ?_); rintro e w' ⟨rfl, ⟨nd, rfl⟩⟩; (try first | exact ⟨rfl, _, World.drewN_drewN _ _ _⟩ | exact ⟨rfl, _, Eq.trans (World.drewN_drewN _ _ _) (congrArg (World.drewN _) (Nat.add_assoc _ _ _))⟩)))
     repeat (go_quiet (fail); try go_wp2_with (fail))
     go_ret3
     exact ⟨by first | rfl | (simp [qr, qq] <;> rfl) | (simp [*, qr, qq] <;> rfl), by repeat (first | (with_reducible first | exact HB.1 | apply qb | apply qa | apply qc) | exact HB.1)⟩

/-! ### laws_yHas: function 65 -/
def laws_yHas.l0 : Nat → Int → List Int → Int → Int → Option (Bool)
 | 0, _, _, _, _ => none
 | k + 1, x1, x7, x8, x9 => if x9 < x8 then (if 0 ≤ x9 then (if x9 < (x7.length : Int) then (if (rd x7 x9) = x1 then (some true) else (laws_yHas.l0 k x1 x7 x8 (wrap64 (x9 + 1)))) else (none)) else (none)) else (some false)
def laws_yHas.f (k : Nat) (l0 : List Int) (a1 : Int) : Option (Bool) := laws_yHas.l0 k a1 l0 (l0.length : Int) 0
set_option maxHeartbeats 8000000 in
set_option maxRecDepth 100000 in
theorem laws_yHas.calls (k : Nat) (A0 : Option Addr) (c0 : Nat) (l0 : List Int) (a1 : Int) (r : Bool) (w : World) (hr0 : Kd.C (Kd.int .i64) w A0 l0.length l0) (hc0 : l0.length ≤ c0) (h : laws_yHas.f k l0 a1 = some r) :
  Calls Tryz.prog 65 #[.slice A0 l0.length c0, .int .i64 a1] w fun e w' => e = .returned (.bool r) ∧ Drawn0 w w' := by
 have HR0 := jb.mk hr0; have HC0 := jb.mk hc0; clear hr0 hc0; have H : (laws_yHas.l0 k a1 l0 (l0.length : Int) 0) = some r := h; clear h; have H' := jb.mk H; clear H; go_enter Tryz.func65, Tryz.ntmps65
 go_wp2
 go_loopg [9] k (fun kq v9 w' => ∃ (x9_1 : Int), v9 = .int .i64 x9_1 ∧ jb (laws_yHas.l0 kq a1 l0 (l0.length : Int) x9_1 = some r) ∧ jb (kq ≤ k) ∧ Drawn0 w w')
 case atStart => exact ⟨(0), (by first | rfl | (simp; done) | (simp [*]; done)), H', ⟨Nat.le_refl _⟩, by repeat (first | exact Drawn0.refl _ | apply Drawn0.step)⟩
 case round =>
  clear H'; (try clear p2); obtain ⟨x9_1, rfl, HA, HK1, ⟨m1, rfl⟩⟩ := hrel; cases gk with
  | zero => exact absurd HA.1 (by simp [laws_yHas.l0])
  | succ k1 =>
   have H := HA.1; clear HA; simp only [laws_yHas.l0] at H
   by_cases c3 : x9_1 < (l0.length : Int)
   ·rw [if_pos c3] at H; have c3b0 : decide (x9_1 < (l0.length : Int)) = true := decide_eq_true c3; clear c3
    by_cases c4 : 0 ≤ x9_1
    ·rw [if_pos c4] at H; have c4b0 : decide (0 ≤ x9_1) = true := decide_eq_true c4; clear c4
     by_cases c5 : x9_1 < (l0.length : Int)
     ·rw [if_pos c5] at H; have c5b0 : decide (x9_1 < (l0.length : Int)) = true := decide_eq_true c5; clear c5
      by_cases c6 : (rd l0 x9_1) = a1
      ·rw [if_pos c6] at H; have c6b0 : ((rd l0 x9_1) == a1) = true := beq_iff_eq.mpr c6; have c6b1 : ((rd l0 x9_1) != a1) = false := bne_eq_false_iff_eq.mpr c6; clear c6; obtain rfl := Option.some.inj H; have p569 : 0 ≤ (x9_1 : Int) := of_decide_eq_true (by first | (with_reducible assumption) | assumption); have q569 : x9_1 < (l0.length : Int) := of_decide_eq_true (by first | (with_reducible assumption) | assumption); obtain ⟨ad569, e569, hx569_0⟩ := Kd.at_int HR0.1 x9_1 p569 q569; cases e569; replace p569 := eq_true p569; replace q569 := eq_true q569
       go_wp2
       go_ret
       exact ⟨by first | rfl | (simp; done) | (simp [*]; done), by repeat (first | exact Drawn0.refl _ | apply Drawn0.step)⟩
      rw [if_neg c6] at H; have c6b0 : ((rd l0 x9_1) == a1) = false := beq_eq_false_iff_ne.mpr c6; have c6b1 : ((rd l0 x9_1) != a1) = true := bne_iff_ne.mpr c6; have H' := jb.mk H; clear H; have p569 : 0 ≤ (x9_1 : Int) := of_decide_eq_true (by first | (with_reducible assumption) | assumption); have q569 : x9_1 < (l0.length : Int) := of_decide_eq_true (by first | (with_reducible assumption) | assumption); obtain ⟨ad569, e569, hx569_0⟩ := Kd.at_int HR0.1 x9_1 p569 q569; cases e569; replace p569 := eq_true p569; replace q569 := eq_true q569
      go_wp2
      go_roundg k1
      case measure => have := HK1.1; omega
      case rel => exact ⟨(wrap64 (x9_1 + 1)), (by first | rfl | (simp; done) | (simp [*]; done)), H', ⟨by have := HK1.1; omega⟩, by repeat (first | exact Drawn0.refl _ | apply Drawn0.step)⟩
     rw [if_neg c5] at H; exact absurd H (by simp)
    rw [if_neg c4] at H; exact absurd H (by simp)
   rw [if_neg c3] at H; have c3b0 : decide (x9_1 < (l0.length : Int)) = false := decide_eq_false c3; clear c3; obtain rfl := Option.some.inj H
   go_wp2
   go_ret
   exact ⟨by first | rfl | (simp; done) | (simp [*]; done), by repeat (first | exact Drawn0.refl _ | apply Drawn0.step)⟩

/-! ### laws_yOnce: function 29 -/
def laws_yOnce.l0 : Nat → List Int → Int → Int → Option (Bool)
 | 0, _, _, _ => none
 | k + 1, x0, x1, x5 => if x5 < x1 then ((laws_yHas.f k x0 x5).bind fun t570 => (if t570 = true then (laws_yOnce.l0 k x0 x1 (wrap64 (x5 + 1))) else (some false))) else (some true)
def laws_yOnce.f (k : Nat) (l0 : List Int) (a1 : Int) : Option (Bool) := if (l0.length : Int) = a1 then (laws_yOnce.l0 k l0 a1 0) else (some false)
set_option maxHeartbeats 8000000 in
set_option maxRecDepth 100000 in
theorem laws_yOnce.calls (k : Nat) (A0 : Option Addr) (c0 : Nat) (l0 : List Int) (a1 : Int) (r : Bool) (w : World) (hr0 : Kd.C (Kd.int .i64) w A0 l0.length l0) (hc0 : l0.length ≤ c0) (h : laws_yOnce.f k l0 a1 = some r) :
  Calls Tryz.prog 29 #[.slice A0 l0.length c0, .int .i64 a1] w fun e w' => e = .returned (.bool r) ∧ Drawn0 w w' := by
 have HR0 := jb.mk hr0; have HC0 := jb.mk hc0; clear hr0 hc0; have H : (if (l0.length : Int) = a1 then (laws_yOnce.l0 k l0 a1 0) else (some false)) = some r := h; clear h
 by_cases c3 : (l0.length : Int) = a1
 ·rw [if_pos c3] at H; have c3b0 : ((l0.length : Int) == a1) = true := beq_iff_eq.mpr c3; have c3b1 : ((l0.length : Int) != a1) = false := bne_eq_false_iff_eq.mpr c3; clear c3; have H' := jb.mk H; clear H; go_enter Tryz.func29, Tryz.ntmps29
  go_wp2
  go_loopg [5] k (fun kq v5 w' => ∃ (x5_1 : Int), v5 = .int .i64 x5_1 ∧ jb (laws_yOnce.l0 kq l0 a1 x5_1 = some r) ∧ jb (kq ≤ k) ∧ Drawn0 w w')
  case atStart => exact ⟨(0), (by first | rfl | (simp; done) | (simp [*]; done)), H', ⟨Nat.le_refl _⟩, by repeat (first | exact Drawn0.refl _ | apply Drawn0.step)⟩
  case round =>
   clear H'; (try clear c2); (try clear p2); (try clear c3); (try clear c3b0); (try clear c3b1); obtain ⟨x5_1, rfl, HA, HK1, ⟨m1, rfl⟩⟩ := hrel; cases gk with
   | zero => exact absurd HA.1 (by simp [laws_yOnce.l0])
   | succ k1 =>
    have H := HA.1; clear HA; simp only [laws_yOnce.l0] at H
    by_cases c4 : x5_1 < a1
    ·rw [if_pos c4] at H; have c4b0 : decide (x5_1 < a1) = true := decide_eq_true c4; clear c4; replace H := Option.bind_eq_some_iff.mp H; obtain ⟨t570, A50, H⟩ := H
     try dsimp only at H
     have A5 := jb.mk A50; clear A50
     by_cases c6 : t570 = true
     ·subst c6; rw [if_pos rfl] at H; have H' := jb.mk H; clear H
      go_wp2_with (((with_reducible refine qo (f := 65) rfl ?_); refine qy (some 17) rfl rfl Tryz.func65 (by kernel_rfl) rfl #[.slice A0 l0.length c0, .int .i64 x5_1] rfl (by (try simp only [List.map_toArray, List.map_cons, List.map_nil]); first | done | rfl | (simp only [List.length_drop, List.length_take]; rfl)) ?_; (with_reducible refine (laws_yHas.calls k1 _ _ l0 x5_1 true _ ?side1 ?side2 A5.1).mono ?_); (case side1 => repeat (first | exact HR0.1 | (with_reducible refine Kd.C_alloc ?_ _) | (with_reducible refine Kd.C_drewN ?_ _) | (with_reducible refine Kd.C_drew ?_))); (case side2 => exact HC0.1); rintro e w' ⟨rfl, ⟨nd, rfl⟩⟩; refine ⟨_, rfl, ?_⟩))
      go_roundg k1
      case measure => have := HK1.1; omega
      case rel => exact ⟨(wrap64 (x5_1 + 1)), (by first | rfl | (simp; done) | (simp [*]; done)), H', ⟨by have := HK1.1; omega⟩, by repeat (first | exact Drawn0.refl _ | apply Drawn0.step)⟩
     replace c6 := Bool.eq_false_iff.mpr c6; subst c6; rw [if_neg (show ¬ (false = true) by decide)] at H; obtain rfl := Option.some.inj H
     go_wp2_with (((with_reducible refine qo (f := 65) rfl ?_); refine qy (some 17) rfl rfl Tryz.func65 (by kernel_rfl) rfl #[.slice A0 l0.length c0, .int .i64 x5_1] rfl (by (try simp only [List.map_toArray, List.map_cons, List.map_nil]); first | done | rfl | (simp only [List.length_drop, List.length_take]; rfl)) ?_; (with_reducible refine (laws_yHas.calls k1 _ _ l0 x5_1 false _ ?side1 ?side2 A5.1).mono ?_); (case side1 => repeat (first | exact HR0.1 | (with_reducible refine Kd.C_alloc ?_ _) | (with_reducible refine Kd.C_drewN ?_ _) | (with_reducible refine Kd.C_drew ?_))); (case side2 => exact HC0.1); rintro e w' ⟨rfl, ⟨nd, rfl⟩⟩; refine ⟨_, rfl, ?_⟩))
     go_ret
     exact ⟨by first | rfl | (simp; done) | (simp [*]; done), by repeat (first | exact Drawn0.refl _ | apply Drawn0.step)⟩
    rw [if_neg c4] at H; have c4b0 : decide (x5_1 < a1) = false := decide_eq_false c4; clear c4; obtain rfl := Option.some.inj H
    go_wp2
    go_ret
    exact ⟨by first | rfl | (simp; done) | (simp [*]; done), by repeat (first | exact Drawn0.refl _ | apply Drawn0.step)⟩
 rw [if_neg c3] at H; have c3b0 : ((l0.length : Int) == a1) = false := beq_eq_false_iff_ne.mpr c3; have c3b1 : ((l0.length : Int) != a1) = true := bne_iff_ne.mpr c3; obtain rfl := Option.some.inj H; go_enter Tryz.func29, Tryz.ntmps29
 go_wp2
 go_ret
 exact ⟨by first | rfl | (simp; done) | (simp [*]; done), by repeat (first | exact Drawn0.refl _ | apply Drawn0.step)⟩

-- NOT PRINTED: function 3 (laws_FnWalkersRound)

end Go.Proofs.YtfaccdafldbjcaaGreat.OFnWalkersRound
