/- The law FnWalkersMeet: contracts of functions, written by a program (after the kit's print). -/
import Derived.Test.YtoideilmkcpilaaGreatDoorOFnWalkersMeetx0
import Derived.Test.YtoideilmkcpilaaGreatDoorOFnWalkersMeetx5
import Derived.Test.YtoideilmkcpilaaGreatDoorOFnWalkersMeetx10
namespace Go.Proofs.YtoideilmkcpilaaGreatDoor.OFnWalkersMeet
open Go.RowKit Go.Proofs.YtoideilmkcpilaaGreatDoorW.PrintWords Go.Proofs.YtoideilmkcpilaaGreatDoorW.PrintLast Go.Proofs.YtoideilmkcpilaaGreatDoorW.PrintMore
attribute [local go_sem] max2_int min2_int max_two min_two max_three min_three max_four min_four   -- for this text's walks alone
set_option linter.unusedVariables false
set_option linter.unusedSimpArgs false
open List (setIfInBounds_toArray set_cons_zero set_cons_succ)

/-! ### spec_meRead: function 78 -/
def spec_meRead.j0 : Nat → ByteArray → Bool → Option (Int × Bool)
 | 0, _, _ => none
 | k + 1, x0, x13 => if x13 = true then (if 1 ≤ (x0.size : Int) then ((spec_l1Read.f k (x0.extract 1 x0.size)).bind fun t477 => (some (wrap64 (-t477), decide (t477 > 0)))) else (none)) else ((spec_l1Read.f k x0).bind fun t478 => (some (t478, decide (t478 ≥ 0))))
def spec_meRead.f (k : Nat) (a0 : ByteArray) : Option (Int × Bool) := if (a0.size : Int) > 1 then (if 0 < (a0.size : Int) then (spec_meRead.j0 k a0 ((bt a0 0) == 45)) else (none)) else (spec_meRead.j0 k a0 false)
set_option maxHeartbeats 8000000 in
set_option maxRecDepth 100000 in
theorem spec_meRead.calls (k : Nat) (a0 : ByteArray) (r1 : Int) (r2 : Bool) (w : World) (h : spec_meRead.f k a0 = some (r1, r2)) :
  Calls Tryz.prog 78 #[.string a0] w fun e w' => e = .returned (.tuple #[.int .i64 r1, .bool r2]) ∧ Drawn0 w w' := by
 have H : (if (a0.size : Int) > 1 then (if 0 < (a0.size : Int) then (spec_meRead.j0 k a0 ((bt a0 0) == 45)) else (none)) else (spec_meRead.j0 k a0 false)) = some (r1, r2) := h; clear h; have HC2 := jb.mk H; clear H; go_enter Tryz.func78, Tryz.ntmps78
 go_upto_region 1 with (fail)
 go_cut [13] (fun v13 wc => ∃ (kq : Nat) (x13_1 : Bool), v13 = .bool x13_1 ∧ jb (spec_meRead.j0 kq a0 x13_1 = some (r1, r2)) ∧ jb (kq ≤ k) ∧ Drawn0 w wc)
 case first =>
  have H := HC2.1; clear HC2
  by_cases c3 : (a0.size : Int) > 1
  ·rw [if_pos c3] at H; have c3b0 : decide (1 < (a0.size : Int)) = true := decide_eq_true c3; have c3b1 : decide (1 < a0.size) = true := decide_eq_true (by omega); clear c3
   (first | rw [c3b0] | (simp only [i64_w, i32_w]; rw [c3b0]) | skip)
   by_cases c4 : 0 < (a0.size : Int)
   ·rw [if_pos c4] at H; have c4b0 : decide (0 < (a0.size : Int)) = true := decide_eq_true c4; have c4b1 : decide (0 < a0.size) = true := decide_eq_true (by omega); clear c4; have H' := jb.mk H; clear H; have p5 : 0 ≤ (0 : Int) := (by omega); have q5 : 0 < a0.size := (by have : (0 : Int) < (a0.size : Int) := of_decide_eq_true (by first | (with_reducible assumption) | assumption); omega); have hx5 : ∀ h : 0 < a0.size, ((a0[0]'h).toNat : Int) = bt a0 0 := bt_at a0 0; clear p5; have qi5 : (0 < (a0.size : Int)) = True := eq_true (of_decide_eq_true (by first | (with_reducible assumption) | assumption)); replace q5 := eq_true q5
    go_wp2
    go_meet
    case rel => exact ⟨_, (((bt a0 0) == 45)), (by first | rfl | (simp; done) | (simp [*]; done)), H', ⟨by first | omega | exact Nat.le_refl _⟩, by repeat (first | exact Drawn0.refl _ | apply Drawn0.step)⟩
   rw [if_neg c4] at H; exact absurd H (by simp)
  rw [if_neg c3] at H; have c3b0 : decide (1 < (a0.size : Int)) = false := decide_eq_false c3; have c3b1 : decide (1 < a0.size) = false := decide_eq_false (by omega); clear c3
  (first | rw [c3b0] | (simp only [i64_w, i32_w]; rw [c3b0]) | skip)
  have H' := jb.mk H; clear H
  go_wp2
  go_meet
  case rel => exact ⟨_, (false), (by first | rfl | (simp; done) | (simp [*]; done)), H', ⟨by first | omega | exact Nat.le_refl _⟩, by repeat (first | exact Drawn0.refl _ | apply Drawn0.step)⟩
 case rest =>
  clear HC2; (try clear p2); (try clear c3); (try clear c3b0); (try clear c3b1); (try clear c4); (try clear c4b0); (try clear c4b1); (try clear p5); (try clear q5); (try clear hx5); (try clear qi5); (try clear p5); (try clear q5); obtain ⟨kq, x13_1, rfl, HA, HJ1, ⟨mc1, rfl⟩⟩ := hcut; cases kq with
  | zero => exact absurd HA.1 (by simp [spec_meRead.j0])
  | succ kj1 =>
   have H := HA.1; clear HA; simp only [spec_meRead.j0] at H
   by_cases c6 : x13_1 = true
   ·subst c6; rw [if_pos rfl] at H
    by_cases c7 : 1 ≤ (a0.size : Int)
    ·rw [if_pos c7] at H; have c7b0 := eq_true c7; have c7b1 : decide (1 ≤ (a0.size : Int)) = true := decide_eq_true c7; clear c7; replace H := Option.bind_eq_some_iff.mp H; obtain ⟨t477, A80, H⟩ := H
     try dsimp only at H
     have A8 := jb.mk A80; clear A80; simp only [Option.some.injEq, Prod.mk.injEq] at H; obtain ⟨rfl, rfl⟩ := H
     go_wp2_with (((with_reducible refine qp (f := 91) rfl ?_); refine qy (some 16) rfl rfl Tryz.func91 (by kernel_rfl) rfl #[.string (a0.extract 1 a0.size)] rfl (by (try simp only [List.map_toArray, List.map_cons, List.map_nil]); first | done | rfl | (simp only [List.length_drop, List.length_take]; rfl)) ?_; (with_reducible refine (spec_l1Read.calls kj1 (a0.extract 1 a0.size) t477 _ A8.1).mono ?_); rintro e w' ⟨rfl, ⟨nd, rfl⟩⟩; refine ⟨_, rfl, ?_⟩))
     go_ret2
     exact ⟨by first | rfl | (simp; done) | (simp [*]; done), by repeat (first | exact Drawn0.refl _ | apply Drawn0.step)⟩
    rw [if_neg c7] at H; exact absurd H (by simp)
   replace c6 := Bool.eq_false_iff.mpr c6; subst c6; rw [if_neg (show ¬ (false = true) by decide)] at H; replace H := Option.bind_eq_some_iff.mp H; obtain ⟨t478, A90, H⟩ := H
   try dsimp only at H
   have A9 := jb.mk A90; clear A90; simp only [Option.some.injEq, Prod.mk.injEq] at H; obtain ⟨rfl, rfl⟩ := H
   go_wp2_with (((with_reducible refine qp (f := 91) rfl ?_); refine qy (some 22) rfl rfl Tryz.func91 (by kernel_rfl) rfl #[.string a0] rfl (by (try simp only [List.map_toArray, List.map_cons, List.map_nil]); first | done | rfl | (simp only [List.length_drop, List.length_take]; rfl)) ?_; (with_reducible refine (spec_l1Read.calls kj1 a0 t478 _ A9.1).mono ?_); rintro e w' ⟨rfl, ⟨nd, rfl⟩⟩; refine ⟨_, rfl, ?_⟩))
   go_ret2
   exact ⟨by first | rfl | (simp; done) | (simp [*]; done), by repeat (first | exact Drawn0.refl _ | apply Drawn0.step)⟩

/-! ### spec_meParse: function 57 -/
def spec_meParse.l0 : Nat → List (S25) → List ByteArray → Int → Int → Option ((List (S25)) × Bool)
 | 0, _, _, _, _ => none
 | k + 1, x4, x16, x17, x18 => if x18 < x17 then (if 0 ≤ x18 then (if x18 < (x16.length : Int) then ((spec_l1Split.f k (rdOf ByteArray.empty x16 x18) 58).bind fun t484 => (if (t484.length : Int) = 2 then (if 0 < (t484.length : Int) then ((spec_meRead.f k (rdOf ByteArray.empty t484 0)).bind fun bt488 => (if 1 < (t484.length : Int) then ((spec_meRead.f k (rdOf ByteArray.empty t484 1)).bind fun bt491 => (if bt488.2 = true then (if bt491.2 = true then (if x4.length < 8796093022208 then (spec_meParse.l0 k (x4 ++ [(⟨bt488.1, bt491.1⟩ : S25)]) x16 x17 (wrap64 (x18 + 1))) else (none)) else (some (([] : List (S25)), false))) else (some (([] : List (S25)), false)))) else (none))) else (none)) else (some (([] : List (S25)), false)))) else (none)) else (none)) else ((spec_meAll.f k x4).bind fun t482 => (if t482 = true then (some (x4, true)) else (some (([] : List (S25)), false))))
def spec_meParse.f (k : Nat) (a0 : ByteArray) : Option ((List (S25)) × Bool) := if (a0.size : Int) > 100 then (some (([] : List (S25)), false)) else ((spec_l1Split.f k a0 44).bind fun t479 => (spec_meParse.l0 k ([] : List (S25)) t479 (t479.length : Int) 0))
set_option maxHeartbeats 8000000 in
set_option maxRecDepth 100000 in
theorem spec_meParse.calls (k : Nat) (a0 : ByteArray) (r1 : List (S25)) (r2 : Bool) (w : World) (h : spec_meParse.f k a0 = some (r1, r2)) :
  Calls Tryz.prog 57 #[.string a0] w fun e w' => ∃ v0_ : Value, e = .returned (.tuple #[v0_, .bool r2]) ∧ Kd.R k25 25 w' w.heap.size (fun _ => True) v0_ r1 ∧ Below w.heap.size w w' := by
 have hu25 := Tryz.underlying25; have HB := jb.mk (Below.refl w.heap.size w); have H : (if (a0.size : Int) > 100 then (some (([] : List (S25)), false)) else ((spec_l1Split.f k a0 44).bind fun t479 => (spec_meParse.l0 k ([] : List (S25)) t479 (t479.length : Int) 0))) = some (r1, r2) := h; clear h
 by_cases c2 : (a0.size : Int) > 100
 ·rw [if_pos c2] at H; have c2b0 : decide (100 < (a0.size : Int)) = true := decide_eq_true c2; have c2b1 : decide (100 < a0.size) = true := decide_eq_true (by omega); clear c2; simp only [Option.some.injEq, Prod.mk.injEq] at H; obtain ⟨rfl, rfl⟩ := H; go_enter Tryz.func57, Tryz.ntmps57
  go_wp2
  go_ret2
  exact ⟨_, by first | rfl | (simp [qr, qq] <;> rfl) | (simp [*, qr, qq] <;> rfl), by first | exact Kd.R_nil _ _ _ _ _ | exact Kd.N_nil _ _ _ _ _ | exact Kd.V_nil _ _ _ _ _ | exact Kd.Q_nil _ _ _ _ _ | exact Kd.S_nil _ _ _ _ _, by repeat (first | (with_reducible first | exact HB.1 | apply qb | apply qa | apply qc) | exact HB.1)⟩
 rw [if_neg c2] at H; have c2b0 : decide (100 < (a0.size : Int)) = false := decide_eq_false c2; have c2b1 : decide (100 < a0.size) = false := decide_eq_false (by omega); clear c2; replace H := Option.bind_eq_some_iff.mp H; obtain ⟨t479, A30, H⟩ := H
 try dsimp only at H
 have A3 := jb.mk A30; clear A30; have H' := jb.mk H; clear H; go_enter Tryz.func57, Tryz.ntmps57
 go_wp2_with (((with_reducible refine qp (f := 77) rfl ?_); refine qy (some 16) rfl rfl Tryz.func77 (by kernel_rfl) rfl #[.string a0, .int .u8 44] rfl (by (try simp only [List.map_toArray, List.map_cons, List.map_nil]); first | done | rfl | (simp only [List.length_drop, List.length_take]; rfl)) ?_; (with_reducible refine (spec_l1Split.calls k a0 44 t479 _ A3.1).mono ?_); rintro e w4 ⟨v480, rfl, ho0, hb⟩; refine ⟨_, rfl, ?_⟩; have n0_ := jb.mk (Kd.R_lower ho0 (ql (by repeat (first | (with_reducible first | exact HB.1 | apply qb | apply qa | apply qc) | exact HB.1)))); have n1_ := jb.mk (qk (by repeat (first | (with_reducible first | exact HB.1 | apply qb | apply qa | apply qc) | exact HB.1)) hb); clear HB; have HO481 := n0_; have HB := n1_; clear n0_ n1_; (try clear hb); (try clear hb2); (try clear hk); (try clear hi); (try clear ho0); obtain ⟨Ao5, co5, eo5⟩ := Kd.R_slice HO481.1; subst eo5))
 go_loopg [4, 18] k (fun kq v4 v18 w' => ∃ (x4_1 : List (S25)) (x18_1 : Int), v18 = .int .i64 x18_1 ∧ jb (spec_meParse.l0 kq x4_1 t479 (t479.length : Int) x18_1 = some (r1, r2)) ∧ jb (kq ≤ k) ∧ jb (Kd.R k25 25 w' w.heap.size (fun _ => True) v4 x4_1) ∧ jb (Kd.R Kd.string 9 w' w.heap.size (fun _ => True) (.slice Ao5 t479.length co5) t479) ∧ jb (Below w.heap.size w w'))
 case atStart => exact ⟨(([] : List (S25))), (0), (by first | rfl | (simp; done) | (simp [*]; done)), H', ⟨Nat.le_refl _⟩, ⟨by first | exact Kd.R_nil _ _ _ _ _ | exact Kd.N_nil _ _ _ _ _ | exact Kd.V_nil _ _ _ _ _ | exact Kd.Q_nil _ _ _ _ _ | exact Kd.S_nil _ _ _ _ _⟩, ⟨by (with_reducible repeat (first | apply Kd.ja | apply Kd.qz | apply Kd.R_drew)); exact HO481.1⟩, ⟨by repeat (first | (with_reducible first | exact HB.1 | apply qb | apply qa | apply qc) | exact HB.1)⟩⟩
 case round =>
  clear H'; (try clear c2); (try clear c2b0); (try clear c2b1); (try clear p2); (try clear c5); obtain ⟨x4_1, x18_1, rfl, HA, HK1, HO_4, HO_16, HB⟩ := hrel; cases gk with
  | zero => exact absurd HA.1 (by simp [spec_meParse.l0])
  | succ k1 =>
   have H := HA.1; clear HA; simp only [spec_meParse.l0] at H
   by_cases c6 : x18_1 < (t479.length : Int)
   ·rw [if_pos c6] at H; have c6b0 : decide (x18_1 < (t479.length : Int)) = true := decide_eq_true c6; clear c6
    by_cases c7 : 0 ≤ x18_1
    ·rw [if_pos c7] at H; have c7b0 : decide (0 ≤ x18_1) = true := decide_eq_true c7; clear c7
     by_cases c8 : x18_1 < (t479.length : Int)
     ·rw [if_pos c8] at H; have c8b0 : decide (x18_1 < (t479.length : Int)) = true := decide_eq_true c8; clear c8; replace H := Option.bind_eq_some_iff.mp H; obtain ⟨t484, A90, H⟩ := H
      try dsimp only at H
      have A9 := jb.mk A90; clear A90
      by_cases c10 : (t484.length : Int) = 2
      ·rw [if_pos c10] at H; have c10b0 : ((t484.length : Int) == 2) = true := beq_iff_eq.mpr c10; have c10b1 : ((t484.length : Int) != 2) = false := bne_eq_false_iff_eq.mpr c10; clear c10
       by_cases c11 : 0 < (t484.length : Int)
       ·rw [if_pos c11] at H; have c11b0 : decide (0 < (t484.length : Int)) = true := decide_eq_true c11; have c11b1 : decide (0 < t484.length) = true := decide_eq_true (by omega); clear c11; replace H := Option.bind_eq_some_iff.mp H; obtain ⟨⟨t488, t489⟩, A120, H⟩ := H
        try dsimp only at H
        have A12 := jb.mk A120; clear A120
        by_cases c13 : 1 < (t484.length : Int)
        ·rw [if_pos c13] at H; have c13b0 : decide (1 < (t484.length : Int)) = true := decide_eq_true c13; have c13b1 : decide (1 < t484.length) = true := decide_eq_true (by omega); clear c13; replace H := Option.bind_eq_some_iff.mp H; obtain ⟨⟨t491, t492⟩, A140, H⟩ := H
         try dsimp only at H
         have A14 := jb.mk A140; clear A140
         by_cases c15 : t489 = true
         ·subst c15; rw [if_pos rfl] at H
          by_cases c16 : t492 = true
          ·subst c16; rw [if_pos rfl] at H
           by_cases c17 : x4_1.length < 8796093022208
           ·rw [if_pos c17] at H; have LMc17 := jb.mk c17; clear c17; obtain ⟨y493, hy493⟩ : ∃ y_ : List (S25), y_ = (x4_1 ++ [(⟨t488, t491⟩ : S25)]) := ⟨_, rfl⟩; replace H : (spec_meParse.l0 k1 y493 t479 (t479.length : Int) (wrap64 (x18_1 + 1))) = some (r1, r2) := by first | (rw [hy493]; with_reducible exact H) | (have H2_ := (Option.bind_some _ _).symm.trans H; rw [hy493]; with_reducible exact H2_) | (have H2_ := (Option.bind_some _ _).symm.trans H; with_reducible exact H2_) | with_reducible exact H | (rw [hy493]; exact H) | exact H
            have Ny493 := jb.mk hy493; clear hy493; have H' := jb.mk H; clear H; have p483 : 0 ≤ (x18_1 : Int) := of_decide_eq_true (by first | (with_reducible assumption) | assumption); have q483 : x18_1 < (t479.length : Int) := of_decide_eq_true (by first | (with_reducible assumption) | assumption); obtain ⟨ad483, e483, hx483_0⟩ := Kd.at_string (Kd.R_reads' HO_16.1).2.2 x18_1 p483 q483; cases e483; replace p483 := eq_true p483; replace q483 := eq_true q483
            go_wp2_with (first | ((with_reducible refine qp (f := 77) rfl ?_); refine qy (some 23) rfl rfl Tryz.func77 (by kernel_rfl) rfl #[.string (rdOf ByteArray.empty t479 x18_1), .int .u8 58] rfl (by (try simp only [List.map_toArray, List.map_cons, List.map_nil]); first | done | rfl | (simp only [List.length_drop, List.length_take]; rfl)) ?_; (with_reducible refine (spec_l1Split.calls k1 (rdOf ByteArray.empty t479 x18_1) 58 t484 _ A9.1).mono ?_); rintro e w18 ⟨v485, rfl, ho0, hb⟩; refine ⟨_, rfl, ?_⟩; have n0_ := jb.mk (Kd.R_below (by (with_reducible repeat (first | apply Kd.ja | apply Kd.qz | apply Kd.R_drew)); exact HO_4.1) hb); have n1_ := jb.mk (Kd.R_elder' (by (with_reducible repeat (first | apply Kd.ja | apply Kd.qz | apply Kd.R_drew)); exact HO_16.1) (Kd.R_base ho0) hb); have n2_ := jb.mk (Kd.R_lower (Kd.R_new' ho0 (Kd.R_lt (by (with_reducible repeat (first | apply Kd.ja | apply Kd.qz | apply Kd.R_drew)); exact HO_16.1))) (ql (by repeat (first | (with_reducible first | exact HB.1 | apply qb | apply qa | apply qc) | exact HB.1)))); have n3_ := jb.mk (qk (by repeat (first | (with_reducible first | exact HB.1 | apply qb | apply qa | apply qc) | exact HB.1)) hb); clear HO_4; clear HO_16; clear HB; have HO_4 := n0_; have HO_16 := n1_; have HO486 := n2_; have HB := n3_; clear n0_ n1_ n2_ n3_; (try clear hb); (try clear hb2); (try clear hk); (try clear hi); (try clear ho0); obtain ⟨Ao19, co19, eo19⟩ := Kd.R_slice HO486.1; subst eo19; have p487 : 0 ≤ (0 : Int) := (by omega); have q487 : 0 < (t484.length : Int) := of_decide_eq_true (by first | (with_reducible assumption) | assumption); obtain ⟨ad487, e487, hx487_0⟩ := Kd.at_string (Kd.R_reads' HO486.1).2.2 0 p487 q487; cases e487; have qi487 : (0 < t484.length) = True := eq_true (by omega); (try rw [show ((0 : Int)).toNat = 0 from rfl] at hx487_0); (try rw [Addr.add_zero'] at hx487_0); replace p487 := eq_true p487; replace q487 := eq_true q487) | ((with_reducible refine qp (f := 78) rfl ?_); refine qy (some 31) rfl rfl Tryz.func78 (by kernel_rfl) rfl #[.string (rdOf ByteArray.empty t484 0)] rfl (by (try simp only [List.map_toArray, List.map_cons, List.map_nil]); first | done | rfl | (simp only [List.length_drop, List.length_take]; rfl)) ?_; (with_reducible refine (spec_meRead.calls k1 (rdOf ByteArray.empty t484 0) t488 true _ A12.1).mono ?_); rintro e w' ⟨rfl, ⟨nd, rfl⟩⟩; refine ⟨_, rfl, ?_⟩; have p490 : 0 ≤ (1 : Int) := (by omega); have q490 : 1 < (t484.length : Int) := of_decide_eq_true (by first | (with_reducible assumption) | assumption); obtain ⟨ad490, e490, hx490_0⟩ := Kd.at_string (Kd.R_reads' HO486.1).2.2 1 p490 q490; obtain rfl : ad487 = ad490 := (by injection e490); (try simp only [show (1 : Int).toNat = 1 from rfl, Nat.reduceMul, Nat.reduceEqDiff, Go.Addr.add, ↓reduceIte] at hx490_0); have qi490 : (1 < t484.length) = True := eq_true (by omega); (try rw [show ((1 : Int)).toNat = 1 from rfl] at hx490_0); replace p490 := eq_true p490; replace q490 := eq_true q490) | ((with_reducible refine qp (f := 78) rfl ?_); refine qy (some 38) rfl rfl Tryz.func78 (by kernel_rfl) rfl #[.string (rdOf ByteArray.empty t484 1)] rfl (by (try simp only [List.map_toArray, List.map_cons, List.map_nil]); first | done | rfl | (simp only [List.length_drop, List.length_take]; rfl)) ?_; (with_reducible refine (spec_meRead.calls k1 (rdOf ByteArray.empty t484 1) t491 true _ A14.1).mono ?_); rintro e w' ⟨rfl, ⟨nd, rfl⟩⟩; refine ⟨_, rfl, ?_⟩) | ((with_reducible refine gate_builtin (b := .append) (xs := #[.tmp 47, .tmp 51]) rfl ?_); at_builtin; refine Kd.R_append k25 (w0 := w) w.heap.size rfl (.tmp 47) (.tmp 51) 32 25 (.agg #[(.int .i64 0), (.int .i64 0)]) 16 rfl Tryz.underlying32 info25 rfl (by decide) (by omega) u4 x4_1 (⟨t488, t491⟩ : S25) [.int .i64 t488, .int .i64 t491] (fun _ => True) (fun _ => False) rfl rfl ?aP (fun _ hk => hk.elim) ?aF ?aO ?aB ?aS ?aL ?_; (case aP => exact k25_mkM _ _ _ (⟨t488, t491⟩ : S25)); (case aB => exact (by repeat (first | (with_reducible first | exact HB.1 | apply qb | apply qa | apply qc) | exact HB.1))); (case aF => exact (fun _ _ => trivial)); (case aO => exact (by (with_reducible repeat (first | apply Kd.ja | apply Kd.qz | apply Kd.R_drew)); exact HO_4.1)); (case aS => exact (ql (by repeat (first | (with_reducible first | exact HB.1 | apply qb | apply qa | apply qc) | exact HB.1)))); (case aL => have := LMc17.out; omega); intro v494 w20 ho hb hg hat; rw [← Ny493.out] at ho; have n0_ := jb.mk (Kd.R_over' (by (with_reducible repeat (first | apply Kd.ja | apply Kd.qz | apply Kd.R_drew)); exact HO_16.1) (Kd.R_typed (by (with_reducible repeat (first | apply Kd.ja | apply Kd.qz | apply Kd.R_drew)); exact HO_4.1)) (by decide) hg); have n1_ := jb.mk (Kd.R_over' (by (with_reducible repeat (first | apply Kd.ja | apply Kd.qz | apply Kd.R_drew)); exact HO486.1) (Kd.R_typed (by (with_reducible repeat (first | apply Kd.ja | apply Kd.qz | apply Kd.R_drew)); exact HO_4.1)) (by decide) hg); have n2_ := jb.mk (hb); have n3_ := jb.mk (ho); clear HO_16; clear HO486; clear HB; clear HO_4; have HO_16 := n0_; have HO486 := n1_; have HB := n2_; have HO495 := n3_; clear n0_ n1_ n2_ n3_; clear ho hb hg hat))
            go_roundg k1
            case measure => have := HK1.1; omega
            case rel => exact ⟨(y493), (wrap64 (x18_1 + 1)), (by first | rfl | (simp; done) | (simp [*]; done)), H', ⟨by have := HK1.1; omega⟩, ⟨by (with_reducible repeat (first | apply Kd.ja | apply Kd.qz | apply Kd.R_drew)); exact HO495.1⟩, ⟨by (with_reducible repeat (first | apply Kd.ja | apply Kd.qz | apply Kd.R_drew)); exact Kd.R_mono HO_16.1 (fun _ hk => trivial)⟩, ⟨by repeat (first | (with_reducible first | exact HB.1 | apply qb | apply qa | apply qc) | exact HB.1)⟩⟩
           rw [if_neg c17] at H; exact absurd H (by simp)
          replace c16 := Bool.eq_false_iff.mpr c16; subst c16; rw [if_neg (show ¬ (false = true) by decide)] at H; simp only [Option.some.injEq, Prod.mk.injEq] at H; obtain ⟨rfl, rfl⟩ := H; have p483 : 0 ≤ (x18_1 : Int) := of_decide_eq_true (by first | (with_reducible assumption) | assumption); have q483 : x18_1 < (t479.length : Int) := of_decide_eq_true (by first | (with_reducible assumption) | assumption); obtain ⟨ad483, e483, hx483_0⟩ := Kd.at_string (Kd.R_reads' HO_16.1).2.2 x18_1 p483 q483; cases e483; replace p483 := eq_true p483; replace q483 := eq_true q483
          go_wp2_with (first | ((with_reducible refine qp (f := 77) rfl ?_); refine qy (some 23) rfl rfl Tryz.func77 (by kernel_rfl) rfl #[.string (rdOf ByteArray.empty t479 x18_1), .int .u8 58] rfl (by (try simp only [List.map_toArray, List.map_cons, List.map_nil]); first | done | rfl | (simp only [List.length_drop, List.length_take]; rfl)) ?_; (with_reducible refine (spec_l1Split.calls k1 (rdOf ByteArray.empty t479 x18_1) 58 t484 _ A9.1).mono ?_); rintro e w21 ⟨v485, rfl, ho0, hb⟩; refine ⟨_, rfl, ?_⟩; have n0_ := jb.mk (Kd.R_below (by (with_reducible repeat (first | apply Kd.ja | apply Kd.qz | apply Kd.R_drew)); exact HO_4.1) hb); have n1_ := jb.mk (Kd.R_elder' (by (with_reducible repeat (first | apply Kd.ja | apply Kd.qz | apply Kd.R_drew)); exact HO_16.1) (Kd.R_base ho0) hb); have n2_ := jb.mk (Kd.R_lower (Kd.R_new' ho0 (Kd.R_lt (by (with_reducible repeat (first | apply Kd.ja | apply Kd.qz | apply Kd.R_drew)); exact HO_16.1))) (ql (by repeat (first | (with_reducible first | exact HB.1 | apply qb | apply qa | apply qc) | exact HB.1)))); have n3_ := jb.mk (qk (by repeat (first | (with_reducible first | exact HB.1 | apply qb | apply qa | apply qc) | exact HB.1)) hb); clear HO_4; clear HO_16; clear HB; have HO_4 := n0_; have HO_16 := n1_; have HO486 := n2_; have HB := n3_; clear n0_ n1_ n2_ n3_; (try clear hb); (try clear hb2); (try clear hk); (try clear hi); (try clear ho0); obtain ⟨Ao22, co22, eo22⟩ := Kd.R_slice HO486.1; subst eo22; have p487 : 0 ≤ (0 : Int) := (by omega); have q487 : 0 < (t484.length : Int) := of_decide_eq_true (by first | (with_reducible assumption) | assumption); obtain ⟨ad487, e487, hx487_0⟩ := Kd.at_string (Kd.R_reads' HO486.1).2.2 0 p487 q487; cases e487; have qi487 : (0 < t484.length) = True := eq_true (by omega); (try rw [show ((0 : Int)).toNat = 0 from rfl] at hx487_0); (try rw [Addr.add_zero'] at hx487_0); replace p487 := eq_true p487; replace q487 := eq_true q487) | ((with_reducible refine qp (f := 78) rfl ?_); refine qy (some 31) rfl rfl Tryz.func78 (by kernel_rfl) rfl #[.string (rdOf ByteArray.empty t484 0)] rfl (by (try simp only [List.map_toArray, List.map_cons, List.map_nil]); first | done | rfl | (simp only [List.length_drop, List.length_take]; rfl)) ?_; (with_reducible refine (spec_meRead.calls k1 (rdOf ByteArray.empty t484 0) t488 true _ A12.1).mono ?_); rintro e w' ⟨rfl, ⟨nd, rfl⟩⟩; refine ⟨_, rfl, ?_⟩; have p490 : 0 ≤ (1 : Int) := (by omega); have q490 : 1 < (t484.length : Int) := of_decide_eq_true (by first | (with_reducible assumption) | assumption); obtain ⟨ad490, e490, hx490_0⟩ := Kd.at_string (Kd.R_reads' HO486.1).2.2 1 p490 q490; obtain rfl : ad487 = ad490 := (by injection e490); (try simp only [show (1 : Int).toNat = 1 from rfl, Nat.reduceMul, Nat.reduceEqDiff, Go.Addr.add, ↓reduceIte] at hx490_0); have qi490 : (1 < t484.length) = True := eq_true (by omega); (try rw [show ((1 : Int)).toNat = 1 from rfl] at hx490_0); replace p490 := eq_true p490; replace q490 := eq_true q490) | ((with_reducible refine qp (f := 78) rfl ?_); refine qy (some 38) rfl rfl Tryz.func78 (by kernel_rfl) rfl #[.string (rdOf ByteArray.empty t484 1)] rfl (by (try simp only [List.map_toArray, List.map_cons, List.map_nil]); first | done | rfl | (simp only [List.length_drop, List.length_take]; rfl)) ?_; (with_reducible refine (spec_meRead.calls k1 (rdOf ByteArray.empty t484 1) t491 false _ A14.1).mono ?_); rintro e w' ⟨rfl, ⟨nd, rfl⟩⟩; refine ⟨_, rfl, ?_⟩))
          go_ret2
          exact ⟨_, by first | rfl | (simp [qr, qq] <;> rfl) | (simp [*, qr, qq] <;> rfl), by first | exact Kd.R_nil _ _ _ _ _ | exact Kd.N_nil _ _ _ _ _ | exact Kd.V_nil _ _ _ _ _ | exact Kd.Q_nil _ _ _ _ _ | exact Kd.S_nil _ _ _ _ _, by repeat (first | (with_reducible first | exact HB.1 | apply qb | apply qa | apply qc) | exact HB.1)⟩
         replace c15 := Bool.eq_false_iff.mpr c15; subst c15; rw [if_neg (show ¬ (false = true) by decide)] at H; simp only [Option.some.injEq, Prod.mk.injEq] at H; obtain ⟨rfl, rfl⟩ := H; have p483 : 0 ≤ (x18_1 : Int) := of_decide_eq_true (by first | (with_reducible assumption) | assumption); have q483 : x18_1 < (t479.length : Int) := of_decide_eq_true (by first | (with_reducible assumption) | assumption); obtain ⟨ad483, e483, hx483_0⟩ := Kd.at_string (Kd.R_reads' HO_16.1).2.2 x18_1 p483 q483; cases e483; replace p483 := eq_true p483; replace q483 := eq_true q483
         go_wp2_with (first | ((with_reducible refine qp (f := 77) rfl ?_); refine qy (some 23) rfl rfl Tryz.func77 (by kernel_rfl) rfl #[.string (rdOf ByteArray.empty t479 x18_1), .int .u8 58] rfl (by (try simp only [List.map_toArray, List.map_cons, List.map_nil]); first | done | rfl | (simp only [List.length_drop, List.length_take]; rfl)) ?_; (with_reducible refine (spec_l1Split.calls k1 (rdOf ByteArray.empty t479 x18_1) 58 t484 _ A9.1).mono ?_); rintro e w23 ⟨v485, rfl, ho0, hb⟩; refine ⟨_, rfl, ?_⟩; have n0_ := jb.mk (Kd.R_below (by (with_reducible repeat (first | apply Kd.ja | apply Kd.qz | apply Kd.R_drew)); exact HO_4.1) hb); have n1_ := jb.mk (Kd.R_elder' (by (with_reducible repeat (first | apply Kd.ja | apply Kd.qz | apply Kd.R_drew)); exact HO_16.1) (Kd.R_base ho0) hb); have n2_ := jb.mk (Kd.R_lower (Kd.R_new' ho0 (Kd.R_lt (by (with_reducible repeat (first | apply Kd.ja | apply Kd.qz | apply Kd.R_drew)); exact HO_16.1))) (ql (by repeat (first | (with_reducible first | exact HB.1 | apply qb | apply qa | apply qc) | exact HB.1)))); have n3_ := jb.mk (qk (by repeat (first | (with_reducible first | exact HB.1 | apply qb | apply qa | apply qc) | exact HB.1)) hb); clear HO_4; clear HO_16; clear HB; have HO_4 := n0_; have HO_16 := n1_; have HO486 := n2_; have HB := n3_; clear n0_ n1_ n2_ n3_; (try clear hb); (try clear hb2); (try clear hk); (try clear hi); (try clear ho0); obtain ⟨Ao24, co24, eo24⟩ := Kd.R_slice HO486.1; subst eo24; have p487 : 0 ≤ (0 : Int) := (by omega); have q487 : 0 < (t484.length : Int) := of_decide_eq_true (by first | (with_reducible assumption) | assumption); obtain ⟨ad487, e487, hx487_0⟩ := Kd.at_string (Kd.R_reads' HO486.1).2.2 0 p487 q487; cases e487; have qi487 : (0 < t484.length) = True := eq_true (by omega); (try rw [show ((0 : Int)).toNat = 0 from rfl] at hx487_0); (try rw [Addr.add_zero'] at hx487_0); replace p487 := eq_true p487; replace q487 := eq_true q487) | ((with_reducible refine qp (f := 78) rfl ?_); refine qy (some 31) rfl rfl Tryz.func78 (by kernel_rfl) rfl #[.string (rdOf ByteArray.empty t484 0)] rfl (by (try simp only [List.map_toArray, List.map_cons, List.map_nil]); first | done | rfl | (simp only [List.length_drop, List.length_take]; rfl)) ?_; (with_reducible refine (spec_meRead.calls k1 (rdOf ByteArray.empty t484 0) t488 false _ A12.1).mono ?_); rintro e w' ⟨rfl, ⟨nd, rfl⟩⟩; refine ⟨_, rfl, ?_⟩; have p490 : 0 ≤ (1 : Int) := (by omega); have q490 : 1 < (t484.length : Int) := of_decide_eq_true (by first | (with_reducible assumption) | assumption); obtain ⟨ad490, e490, hx490_0⟩ := Kd.at_string (Kd.R_reads' HO486.1).2.2 1 p490 q490; obtain rfl : ad487 = ad490 := (by injection e490); (try simp only [show (1 : Int).toNat = 1 from rfl, Nat.reduceMul, Nat.reduceEqDiff, Go.Addr.add, ↓reduceIte] at hx490_0); have qi490 : (1 < t484.length) = True := eq_true (by omega); (try rw [show ((1 : Int)).toNat = 1 from rfl] at hx490_0); replace p490 := eq_true p490; replace q490 := eq_true q490) | ((with_reducible refine qp (f := 78) rfl ?_); refine qy (some 38) rfl rfl Tryz.func78 (by kernel_rfl) rfl #[.string (rdOf ByteArray.empty t484 1)] rfl (by (try simp only [List.map_toArray, List.map_cons, List.map_nil]); first | done | rfl | (simp only [List.length_drop, List.length_take]; rfl)) ?_; (with_reducible refine (spec_meRead.calls k1 (rdOf ByteArray.empty t484 1) t491 t492 _ A14.1).mono ?_); rintro e w' ⟨rfl, ⟨nd, rfl⟩⟩; refine ⟨_, rfl, ?_⟩))
         go_ret2
         exact ⟨_, by first | rfl | (simp [qr, qq] <;> rfl) | (simp [*, qr, qq] <;> rfl), by first | exact Kd.R_nil _ _ _ _ _ | exact Kd.N_nil _ _ _ _ _ | exact Kd.V_nil _ _ _ _ _ | exact Kd.Q_nil _ _ _ _ _ | exact Kd.S_nil _ _ _ _ _, by repeat (first | (with_reducible first | exact HB.1 | apply qb | apply qa | apply qc) | exact HB.1)⟩
        rw [if_neg c13] at H; exact absurd H (by simp)
       rw [if_neg c11] at H; exact absurd H (by simp)
      rw [if_neg c10] at H; have c10b0 : ((t484.length : Int) == 2) = false := beq_eq_false_iff_ne.mpr c10; have c10b1 : ((t484.length : Int) != 2) = true := bne_iff_ne.mpr c10; simp only [Option.some.injEq, Prod.mk.injEq] at H; obtain ⟨rfl, rfl⟩ := H; have p483 : 0 ≤ (x18_1 : Int) := of_decide_eq_true (by first | (with_reducible assumption) | assumption); have q483 : x18_1 < (t479.length : Int) := of_decide_eq_true (by first | (with_reducible assumption) | assumption); obtain ⟨ad483, e483, hx483_0⟩ := Kd.at_string (Kd.R_reads' HO_16.1).2.2 x18_1 p483 q483; cases e483; replace p483 := eq_true p483; replace q483 := eq_true q483
      go_wp2_with (((with_reducible refine qp (f := 77) rfl ?_); refine qy (some 23) rfl rfl Tryz.func77 (by kernel_rfl) rfl #[.string (rdOf ByteArray.empty t479 x18_1), .int .u8 58] rfl (by (try simp only [List.map_toArray, List.map_cons, List.map_nil]); first | done | rfl | (simp only [List.length_drop, List.length_take]; rfl)) ?_; (with_reducible refine (spec_l1Split.calls k1 (rdOf ByteArray.empty t479 x18_1) 58 t484 _ A9.1).mono ?_); rintro e w25 ⟨v485, rfl, ho0, hb⟩; refine ⟨_, rfl, ?_⟩; have n0_ := jb.mk (Kd.R_below (by (with_reducible repeat (first | apply Kd.ja | apply Kd.qz | apply Kd.R_drew)); exact HO_4.1) hb); have n1_ := jb.mk (Kd.R_elder' (by (with_reducible repeat (first | apply Kd.ja | apply Kd.qz | apply Kd.R_drew)); exact HO_16.1) (Kd.R_base ho0) hb); have n2_ := jb.mk (Kd.R_lower (Kd.R_new' ho0 (Kd.R_lt (by (with_reducible repeat (first | apply Kd.ja | apply Kd.qz | apply Kd.R_drew)); exact HO_16.1))) (ql (by repeat (first | (with_reducible first | exact HB.1 | apply qb | apply qa | apply qc) | exact HB.1)))); have n3_ := jb.mk (qk (by repeat (first | (with_reducible first | exact HB.1 | apply qb | apply qa | apply qc) | exact HB.1)) hb); clear HO_4; clear HO_16; clear HB; have HO_4 := n0_; have HO_16 := n1_; have HO486 := n2_; have HB := n3_; clear n0_ n1_ n2_ n3_; (try clear hb); (try clear hb2); (try clear hk); (try clear hi); (try clear ho0); obtain ⟨Ao26, co26, eo26⟩ := Kd.R_slice HO486.1; subst eo26))
      go_ret2
      exact ⟨_, by first | rfl | (simp [qr, qq] <;> rfl) | (simp [*, qr, qq] <;> rfl), by first | exact Kd.R_nil _ _ _ _ _ | exact Kd.N_nil _ _ _ _ _ | exact Kd.V_nil _ _ _ _ _ | exact Kd.Q_nil _ _ _ _ _ | exact Kd.S_nil _ _ _ _ _, by repeat (first | (with_reducible first | exact HB.1 | apply qb | apply qa | apply qc) | exact HB.1)⟩
     rw [if_neg c8] at H; exact absurd H (by simp)
    rw [if_neg c7] at H; exact absurd H (by simp)
   rw [if_neg c6] at H; have c6b0 : decide (x18_1 < (t479.length : Int)) = false := decide_eq_false c6; clear c6; replace H := Option.bind_eq_some_iff.mp H; obtain ⟨t482, A270, H⟩ := H
   try dsimp only at H
   have A27 := jb.mk A270; clear A270
   by_cases c28 : t482 = true
   ·subst c28; rw [if_pos rfl] at H; simp only [Option.some.injEq, Prod.mk.injEq] at H; obtain ⟨rfl, rfl⟩ := H; obtain ⟨Ao29, co29, eo29⟩ := Kd.R_slice HO_4.1; subst eo29
    go_wp2_with (((with_reducible refine qp (f := 43) rfl ?_); refine qy (some 55) rfl rfl Tryz.func43 (by kernel_rfl) rfl #[.slice Ao29 x4_1.length co29] rfl (by (try simp only [List.map_toArray, List.map_cons, List.map_nil]); first | done | rfl | (simp only [List.length_drop, List.length_take]; rfl)) ?_; (with_reducible refine (spec_meAll.calls k1 _ _ x4_1 true _ ?side1 ?side2 A27.1).mono ?_); (case side1 => repeat (first | exact (Kd.R_reads' HO_4.1).2.2 | (with_reducible refine Kd.C_alloc ?_ _) | (with_reducible refine Kd.C_drewN ?_ _) | (with_reducible refine Kd.C_drew ?_))); (case side2 => exact (Kd.R_reads' HO_4.1).2.1); rintro e w30 ⟨rfl, hb⟩; refine ⟨_, rfl, ?_⟩; have n0_ := jb.mk (Kd.R_below (by (with_reducible repeat (first | apply Kd.ja | apply Kd.qz | apply Kd.R_drew)); exact HO_4.1) hb); have n1_ := jb.mk (Kd.R_below (by (with_reducible repeat (first | apply Kd.ja | apply Kd.qz | apply Kd.R_drew)); exact HO_16.1) hb); have n2_ := jb.mk (qk (by repeat (first | (with_reducible first | exact HB.1 | apply qb | apply qa | apply qc) | exact HB.1)) hb); clear HO_4; clear HO_16; clear HB; have HO_4 := n0_; have HO_16 := n1_; have HB := n2_; clear n0_ n1_ n2_; (try clear hb); (try clear hb2); (try clear hk); (try clear hi)))
    go_ret2
    exact ⟨_, by first | rfl | (simp [qr, qq] <;> rfl) | (simp [*, qr, qq] <;> rfl), by (with_reducible repeat (first | apply Kd.ja | apply Kd.qz | apply Kd.R_drew)); exact HO_4.1, by repeat (first | (with_reducible first | exact HB.1 | apply qb | apply qa | apply qc) | exact HB.1)⟩
   replace c28 := Bool.eq_false_iff.mpr c28; subst c28; rw [if_neg (show ¬ (false = true) by decide)] at H; simp only [Option.some.injEq, Prod.mk.injEq] at H; obtain ⟨rfl, rfl⟩ := H; obtain ⟨Ao31, co31, eo31⟩ := Kd.R_slice HO_4.1; subst eo31
   go_wp2_with (((with_reducible refine qp (f := 43) rfl ?_); refine qy (some 55) rfl rfl Tryz.func43 (by kernel_rfl) rfl #[.slice Ao31 x4_1.length co31] rfl (by (try simp only [List.map_toArray, List.map_cons, List.map_nil]); first | done | rfl | (simp only [List.length_drop, List.length_take]; rfl)) ?_; (with_reducible refine (spec_meAll.calls k1 _ _ x4_1 false _ ?side1 ?side2 A27.1).mono ?_); (case side1 => repeat (first | exact (Kd.R_reads' HO_4.1).2.2 | (with_reducible refine Kd.C_alloc ?_ _) | (with_reducible refine Kd.C_drewN ?_ _) | (with_reducible refine Kd.C_drew ?_))); (case side2 => exact (Kd.R_reads' HO_4.1).2.1); rintro e w32 ⟨rfl, hb⟩; refine ⟨_, rfl, ?_⟩; have n0_ := jb.mk (Kd.R_below (by (with_reducible repeat (first | apply Kd.ja | apply Kd.qz | apply Kd.R_drew)); exact HO_4.1) hb); have n1_ := jb.mk (Kd.R_below (by (with_reducible repeat (first | apply Kd.ja | apply Kd.qz | apply Kd.R_drew)); exact HO_16.1) hb); have n2_ := jb.mk (qk (by repeat (first | (with_reducible first | exact HB.1 | apply qb | apply qa | apply qc) | exact HB.1)) hb); clear HO_4; clear HO_16; clear HB; have HO_4 := n0_; have HO_16 := n1_; have HB := n2_; clear n0_ n1_ n2_; (try clear hb); (try clear hb2); (try clear hk); (try clear hi)))
   go_ret2
   exact ⟨_, by first | rfl | (simp [qr, qq] <;> rfl) | (simp [*, qr, qq] <;> rfl), by first | exact Kd.R_nil _ _ _ _ _ | exact Kd.N_nil _ _ _ _ _ | exact Kd.V_nil _ _ _ _ _ | exact Kd.Q_nil _ _ _ _ _ | exact Kd.S_nil _ _ _ _ _, by repeat (first | (with_reducible first | exact HB.1 | apply qb | apply qa | apply qc) | exact HB.1)⟩

/-! ### spec_ParseWalkers: function 28 -/
def spec_ParseWalkers.f (k : Nat) (a0 : ByteArray) : Option ((List (S25)) × Bool) := (spec_meParse.f k a0).bind fun bt496 => (some (bt496.1, bt496.2))
set_option maxHeartbeats 8000000 in
set_option maxRecDepth 100000 in
theorem spec_ParseWalkers.calls (k : Nat) (a0 : ByteArray) (r1 : List (S25)) (r2 : Bool) (w : World) (h : spec_ParseWalkers.f k a0 = some (r1, r2)) :
  Calls Tryz.prog 28 #[.string a0] w fun e w' => ∃ v0_ : Value, e = .returned (.tuple #[v0_, .bool r2]) ∧ Kd.R k25 25 w' w.heap.size (fun _ => True) v0_ r1 ∧ Below w.heap.size w w' := by
 have HB := jb.mk (Below.refl w.heap.size w); have H : ((spec_meParse.f k a0).bind fun bt496 => (some (bt496.1, bt496.2))) = some (r1, r2) := h; clear h; replace H := Option.bind_eq_some_iff.mp H; obtain ⟨⟨t496, t497⟩, A20, H⟩ := H
 try dsimp only at H
 have A2 := jb.mk A20; clear A20; simp only [Option.some.injEq, Prod.mk.injEq] at H; obtain ⟨rfl, rfl⟩ := H; go_enter Tryz.func28, Tryz.ntmps28
 go_wp2_with (((with_reducible refine qp (f := 57) rfl ?_); refine qy (some 5) rfl rfl Tryz.func57 (by kernel_rfl) rfl #[.string a0] rfl (by (try simp only [List.map_toArray, List.map_cons, List.map_nil]); first | done | rfl | (simp only [List.length_drop, List.length_take]; rfl)) ?_; (with_reducible refine (spec_meParse.calls k a0 t496 t497 _ A2.1).mono ?_); rintro e w3 ⟨v498, rfl, ho0, hb⟩; refine ⟨_, rfl, ?_⟩; have n0_ := jb.mk (Kd.R_lower ho0 (ql (by repeat (first | (with_reducible first | exact HB.1 | apply qb | apply qa | apply qc) | exact HB.1)))); have n1_ := jb.mk (qk (by repeat (first | (with_reducible first | exact HB.1 | apply qb | apply qa | apply qc) | exact HB.1)) hb); clear HB; have HO499 := n0_; have HB := n1_; clear n0_ n1_; (try clear hb); (try clear hb2); (try clear hk); (try clear hi); (try clear ho0)))
 go_ret2
 exact ⟨_, by first | rfl | (simp [qr, qq] <;> rfl) | (simp [*, qr, qq] <;> rfl), by (with_reducible repeat (first | apply Kd.ja | apply Kd.qz | apply Kd.R_drew)); exact HO499.1, by repeat (first | (with_reducible first | exact HB.1 | apply qb | apply qa | apply qc) | exact HB.1)⟩

/-! ### laws_ySame: function 58 -/
def laws_ySame.l0 : Nat → List Int → List Int → Int → Int → Option (Bool)
 | 0, _, _, _, _ => none
 | k + 1, x0, x1, x12, x13 => if x13 < x12 then (if 0 ≤ x13 then (if x13 < (x0.length : Int) then (if x13 < (x1.length : Int) then (if (rd x0 x13) = (rd x1 x13) then (laws_ySame.l0 k x0 x1 x12 (wrap64 (x13 + 1))) else (some false)) else (none)) else (none)) else (none)) else (some true)
def laws_ySame.f (k : Nat) (l0 : List Int) (l1 : List Int) : Option (Bool) := if (l0.length : Int) = (l1.length : Int) then (laws_ySame.l0 k l0 l1 (l0.length : Int) 0) else (some false)
set_option maxHeartbeats 8000000 in
set_option maxRecDepth 100000 in
theorem laws_ySame.calls (k : Nat) (A0 : Option Addr) (c0 : Nat) (l0 : List Int) (A1 : Option Addr) (c1 : Nat) (l1 : List Int) (r : Bool) (w : World) (hr0 : Kd.C (Kd.int .i64) w A0 l0.length l0) (hc0 : l0.length ≤ c0) (hr1 : Kd.C (Kd.int .i64) w A1 l1.length l1) (hc1 : l1.length ≤ c1) (h : laws_ySame.f k l0 l1 = some r) :
  Calls Tryz.prog 58 #[.slice A0 l0.length c0, .slice A1 l1.length c1] w fun e w' => e = .returned (.bool r) ∧ Drawn0 w w' := by
 have HR0 := jb.mk hr0; have HC0 := jb.mk hc0; clear hr0 hc0; have HR1 := jb.mk hr1; have HC1 := jb.mk hc1; clear hr1 hc1; have H : (if (l0.length : Int) = (l1.length : Int) then (laws_ySame.l0 k l0 l1 (l0.length : Int) 0) else (some false)) = some r := h; clear h
 by_cases c3 : (l0.length : Int) = (l1.length : Int)
 ·rw [if_pos c3] at H; have c3b0 : ((l0.length : Int) == (l1.length : Int)) = true := beq_iff_eq.mpr c3; have c3b1 : ((l0.length : Int) != (l1.length : Int)) = false := bne_eq_false_iff_eq.mpr c3; have c3b2 : (l0.length == l1.length) = true := by first | simpa using c3 | (simp at c3 ⊢; omega)
  clear c3; have H' := jb.mk H; clear H; go_enter Tryz.func58, Tryz.ntmps58
  go_wp2
  repeat (go_quiet (fail); try go_wp2)
  go_loopg [13] k (fun kq v13 w' => ∃ (x13_1 : Int), v13 = .int .i64 x13_1 ∧ jb (laws_ySame.l0 kq l0 l1 (l0.length : Int) x13_1 = some r) ∧ jb (kq ≤ k) ∧ Drawn0 w w')
  case atStart => exact ⟨(0), (by first | rfl | (simp; done) | (simp [*]; done)), H', ⟨Nat.le_refl _⟩, by repeat (first | exact Drawn0.refl _ | apply Drawn0.step)⟩
  case round =>
   clear H'; (try clear c1); (try clear p2); (try clear c3); (try clear c3b0); (try clear c3b1); (try clear c3b2); obtain ⟨x13_1, rfl, HA, HK1, ⟨m1, rfl⟩⟩ := hrel; cases gk with
   | zero => exact absurd HA.1 (by simp [laws_ySame.l0])
   | succ k1 =>
    have H := HA.1; clear HA; simp only [laws_ySame.l0] at H
    by_cases c4 : x13_1 < (l0.length : Int)
    ·rw [if_pos c4] at H; have c4b0 : decide (x13_1 < (l0.length : Int)) = true := decide_eq_true c4; clear c4
     by_cases c5 : 0 ≤ x13_1
     ·rw [if_pos c5] at H; have c5b0 : decide (0 ≤ x13_1) = true := decide_eq_true c5; clear c5
      by_cases c6 : x13_1 < (l0.length : Int)
      ·rw [if_pos c6] at H; have c6b0 : decide (x13_1 < (l0.length : Int)) = true := decide_eq_true c6; clear c6
       by_cases c7 : x13_1 < (l1.length : Int)
       ·rw [if_pos c7] at H; have c7b0 : decide (x13_1 < (l1.length : Int)) = true := decide_eq_true c7; clear c7
        by_cases c8 : (rd l0 x13_1) = (rd l1 x13_1)
        ·rw [if_pos c8] at H; have c8b0 : ((rd l0 x13_1) == (rd l1 x13_1)) = true := beq_iff_eq.mpr c8; have c8b1 : ((rd l0 x13_1) != (rd l1 x13_1)) = false := bne_eq_false_iff_eq.mpr c8; clear c8; have H' := jb.mk H; clear H; have p500 : 0 ≤ (x13_1 : Int) := of_decide_eq_true (by first | (with_reducible assumption) | assumption); have q500 : x13_1 < (l0.length : Int) := of_decide_eq_true (by first | (with_reducible assumption) | assumption); obtain ⟨ad500, e500, hx500_0⟩ := Kd.at_int HR0.1 x13_1 p500 q500; cases e500; replace p500 := eq_true p500; replace q500 := eq_true q500; have p501 : 0 ≤ (x13_1 : Int) := of_decide_eq_true (by first | (with_reducible assumption) | assumption); have q501 : x13_1 < (l1.length : Int) := of_decide_eq_true (by first | (with_reducible assumption) | assumption); obtain ⟨ad501, e501, hx501_0⟩ := Kd.at_int HR1.1 x13_1 p501 q501; cases e501; replace p501 := eq_true p501; replace q501 := eq_true q501
         go_wp2
         repeat (go_quiet (fail); try go_wp2)
         go_roundg k1
         case measure => have := HK1.1; omega
         case rel => exact ⟨(wrap64 (x13_1 + 1)), (by first | rfl | (simp; done) | (simp [*]; done)), H', ⟨by have := HK1.1; omega⟩, by repeat (first | exact Drawn0.refl _ | apply Drawn0.step)⟩
        rw [if_neg c8] at H; have c8b0 : ((rd l0 x13_1) == (rd l1 x13_1)) = false := beq_eq_false_iff_ne.mpr c8; have c8b1 : ((rd l0 x13_1) != (rd l1 x13_1)) = true := bne_iff_ne.mpr c8; obtain rfl := Option.some.inj H; have p500 : 0 ≤ (x13_1 : Int) := of_decide_eq_true (by first | (with_reducible assumption) | assumption); have q500 : x13_1 < (l0.length : Int) := of_decide_eq_true (by first | (with_reducible assumption) | assumption); obtain ⟨ad500, e500, hx500_0⟩ := Kd.at_int HR0.1 x13_1 p500 q500; cases e500; replace p500 := eq_true p500; replace q500 := eq_true q500; have p501 : 0 ≤ (x13_1 : Int) := of_decide_eq_true (by first | (with_reducible assumption) | assumption); have q501 : x13_1 < (l1.length : Int) := of_decide_eq_true (by first | (with_reducible assumption) | assumption); obtain ⟨ad501, e501, hx501_0⟩ := Kd.at_int HR1.1 x13_1 p501 q501; cases e501; replace p501 := eq_true p501; replace q501 := eq_true q501
        go_wp2
        repeat (go_quiet (fail); try go_wp2)
        go_ret
        exact ⟨by first | rfl | (simp; done) | (simp [*]; done), by repeat (first | exact Drawn0.refl _ | apply Drawn0.step)⟩
       rw [if_neg c7] at H; exact absurd H (by simp)
      rw [if_neg c6] at H; exact absurd H (by simp)
     rw [if_neg c5] at H; exact absurd H (by simp)
    rw [if_neg c4] at H; have c4b0 : decide (x13_1 < (l0.length : Int)) = false := decide_eq_false c4; clear c4; obtain rfl := Option.some.inj H
    go_wp2
    repeat (go_quiet (fail); try go_wp2)
    go_ret
    exact ⟨by first | rfl | (simp; done) | (simp [*]; done), by repeat (first | exact Drawn0.refl _ | apply Drawn0.step)⟩
 rw [if_neg c3] at H; have c3b0 : ((l0.length : Int) == (l1.length : Int)) = false := beq_eq_false_iff_ne.mpr c3; have c3b1 : ((l0.length : Int) != (l1.length : Int)) = true := bne_iff_ne.mpr c3; have c3b2 : (l0.length == l1.length) = false := by first | simpa using c3 | (simp at c3 ⊢; omega)
 obtain rfl := Option.some.inj H; go_enter Tryz.func58, Tryz.ntmps58
 go_wp2
 repeat (go_quiet (fail); try go_wp2)
 go_ret
 exact ⟨by first | rfl | (simp; done) | (simp [*]; done), by repeat (first | exact Drawn0.refl _ | apply Drawn0.step)⟩

/-! ### laws_yRows: function 29 -/
def laws_yRows.l0 : Nat → List (List Int) → List (List Int) → Int → Int → Option (Bool)
 | 0, _, _, _, _ => none
 | k + 1, x0, x1, x12, x13 => if x13 < x12 then (if 0 ≤ x13 then (if x13 < (x0.length : Int) then (if x13 < (x1.length : Int) then ((laws_ySame.f k (jf x0 x13) (jf x1 x13)).bind fun t504 => (if t504 = true then (laws_yRows.l0 k x0 x1 x12 (wrap64 (x13 + 1))) else (some false))) else (none)) else (none)) else (none)) else (some true)
def laws_yRows.f (k : Nat) (l0 : List (List Int)) (l1 : List (List Int)) : Option (Bool) := if (l0.length : Int) = (l1.length : Int) then (laws_yRows.l0 k l0 l1 (l0.length : Int) 0) else (some false)
set_option maxHeartbeats 8000000 in
set_option maxRecDepth 100000 in
theorem laws_yRows.calls (k : Nat) (A0 : Option Addr) (c0 : Nat) (l0 : List (List Int)) (A1 : Option Addr) (c1 : Nat) (l1 : List (List Int)) (r : Bool) (w : World) (hr0 : Kd.C (Kd.slice 3 (Kd.int .i64)) w A0 l0.length l0) (hc0 : l0.length ≤ c0) (hr1 : Kd.C (Kd.slice 3 (Kd.int .i64)) w A1 l1.length l1) (hc1 : l1.length ≤ c1) (h : laws_yRows.f k l0 l1 = some r) :
  Calls Tryz.prog 29 #[.slice A0 l0.length c0, .slice A1 l1.length c1] w fun e w' => e = .returned (.bool r) ∧ Drawn0 w w' := by
 have HR0 := jb.mk hr0; have HC0 := jb.mk hc0; clear hr0 hc0; have HR1 := jb.mk hr1; have HC1 := jb.mk hc1; clear hr1 hc1; have H : (if (l0.length : Int) = (l1.length : Int) then (laws_yRows.l0 k l0 l1 (l0.length : Int) 0) else (some false)) = some r := h; clear h
 by_cases c3 : (l0.length : Int) = (l1.length : Int)
 ·rw [if_pos c3] at H; have c3b0 : ((l0.length : Int) == (l1.length : Int)) = true := beq_iff_eq.mpr c3; have c3b1 : ((l0.length : Int) != (l1.length : Int)) = false := bne_eq_false_iff_eq.mpr c3; have c3b2 : (l0.length == l1.length) = true := by first | simpa using c3 | (simp at c3 ⊢; omega)
  clear c3; have H' := jb.mk H; clear H; go_enter Tryz.func29, Tryz.ntmps29
  go_wp2
  repeat (go_quiet (fail); try go_wp2)
  go_loopg [13] k (fun kq v13 w' => ∃ (x13_1 : Int), v13 = .int .i64 x13_1 ∧ jb (laws_yRows.l0 kq l0 l1 (l0.length : Int) x13_1 = some r) ∧ jb (kq ≤ k) ∧ Drawn0 w w')
  case atStart => exact ⟨(0), (by first | rfl | (simp; done) | (simp [*]; done)), H', ⟨Nat.le_refl _⟩, by repeat (first | exact Drawn0.refl _ | apply Drawn0.step)⟩
  case round =>
   clear H'; (try clear c1); (try clear c2); (try clear p2); (try clear c3); (try clear c3b0); (try clear c3b1); (try clear c3b2); obtain ⟨x13_1, rfl, HA, HK1, ⟨m1, rfl⟩⟩ := hrel; cases gk with
   | zero => exact absurd HA.1 (by simp [laws_yRows.l0])
   | succ k1 =>
    have H := HA.1; clear HA; simp only [laws_yRows.l0] at H
    by_cases c4 : x13_1 < (l0.length : Int)
    ·rw [if_pos c4] at H; have c4b0 : decide (x13_1 < (l0.length : Int)) = true := decide_eq_true c4; clear c4
     by_cases c5 : 0 ≤ x13_1
     ·rw [if_pos c5] at H; have c5b0 : decide (0 ≤ x13_1) = true := decide_eq_true c5; clear c5
      by_cases c6 : x13_1 < (l0.length : Int)
      ·rw [if_pos c6] at H; have c6b0 : decide (x13_1 < (l0.length : Int)) = true := decide_eq_true c6; clear c6
       by_cases c7 : x13_1 < (l1.length : Int)
       ·rw [if_pos c7] at H; have c7b0 : decide (x13_1 < (l1.length : Int)) = true := decide_eq_true c7; clear c7; replace H := Option.bind_eq_some_iff.mp H; obtain ⟨t504, A80, H⟩ := H
        try dsimp only at H
        have A8 := jb.mk A80; clear A80
        by_cases c9 : t504 = true
        ·subst c9; rw [if_pos rfl] at H; have H' := jb.mk H; clear H; have p502 : 0 ≤ (x13_1 : Int) := of_decide_eq_true (by first | (with_reducible assumption) | assumption); have q502 : x13_1 < (l0.length : Int) := of_decide_eq_true (by first | (with_reducible assumption) | assumption); obtain ⟨ad502, A502_0, c502_0, e502, hx502_0, hl502_0, hi502_0⟩ := at_L5 HR0.1 x13_1 p502 q502; cases e502; have HR502_0 := jb.mk hi502_0; have HC502_0 := jb.mk hl502_0; clear hi502_0 hl502_0; replace p502 := eq_true p502; replace q502 := eq_true q502; have p503 : 0 ≤ (x13_1 : Int) := of_decide_eq_true (by first | (with_reducible assumption) | assumption); have q503 : x13_1 < (l1.length : Int) := of_decide_eq_true (by first | (with_reducible assumption) | assumption); obtain ⟨ad503, A503_0, c503_0, e503, hx503_0, hl503_0, hi503_0⟩ := at_L5 HR1.1 x13_1 p503 q503; cases e503; have HR503_0 := jb.mk hi503_0; have HC503_0 := jb.mk hl503_0; clear hi503_0 hl503_0; replace p503 := eq_true p503; replace q503 := eq_true q503
         go_wp2_with (fail)
         repeat (go_quiet ((go_at_call 58; (with_reducible refine (laws_ySame.calls k1 _ _ (jf l0 x13_1) _ _ (jf l1 x13_1) true _ ?side1 ?side2 ?side3 ?side4 A8.1).mono ?_); (case side1 => repeat (first | exact HR502_0.1 | (with_reducible refine Kd.C_alloc ?_ _) | (with_reducible refine Kd.C_drewN ?_ _) | (with_reducible refine Kd.C_drew ?_))); (case side2 => exact HC502_0.1); (case side3 => repeat (first | exact HR503_0.1 | (with_reducible refine Kd.C_alloc ?_ _) | (with_reducible refine Kd.C_drewN ?_ _) | (with_reducible refine Kd.C_drew ?_))); (case side4 => exact HC503_0.1); rintro e w' ⟨rfl, ⟨nd, rfl⟩⟩; (try first | exact ⟨rfl, _, World.drewN_drewN _ _ _⟩ | exact ⟨rfl, _, Eq.trans (World.drewN_drewN _ _ _) (congrArg (World.drewN _) (Nat.add_assoc _ _ _))⟩))); try go_wp2_with (fail))
         go_roundg k1
         case measure => have := HK1.1; omega
         case rel => exact ⟨(wrap64 (x13_1 + 1)), (by first | rfl | (simp; done) | (simp [*]; done)), H', ⟨by have := HK1.1; omega⟩, by repeat (first | exact Drawn0.refl _ | apply Drawn0.step)⟩
        replace c9 := Bool.eq_false_iff.mpr c9; subst c9; rw [if_neg (show ¬ (false = true) by decide)] at H; obtain rfl := Option.some.inj H; have p502 : 0 ≤ (x13_1 : Int) := of_decide_eq_true (by first | (with_reducible assumption) | assumption); have q502 : x13_1 < (l0.length : Int) := of_decide_eq_true (by first | (with_reducible assumption) | assumption); obtain ⟨ad502, A502_0, c502_0, e502, hx502_0, hl502_0, hi502_0⟩ := at_L5 HR0.1 x13_1 p502 q502; cases e502; have HR502_0 := jb.mk hi502_0; have HC502_0 := jb.mk hl502_0; clear hi502_0 hl502_0; replace p502 := eq_true p502; replace q502 := eq_true q502; have p503 : 0 ≤ (x13_1 : Int) := of_decide_eq_true (by first | (with_reducible assumption) | assumption); have q503 : x13_1 < (l1.length : Int) := of_decide_eq_true (by first | (with_reducible assumption) | assumption); obtain ⟨ad503, A503_0, c503_0, e503, hx503_0, hl503_0, hi503_0⟩ := at_L5 HR1.1 x13_1 p503 q503; cases e503; have HR503_0 := jb.mk hi503_0; have HC503_0 := jb.mk hl503_0; clear hi503_0 hl503_0; replace p503 := eq_true p503; replace q503 := eq_true q503
        go_wp2_with (fail)
        repeat (go_quiet ((go_at_call 58; (with_reducible refine (laws_ySame.calls k1 _ _ (jf l0 x13_1) _ _ (jf l1 x13_1) false _ ?side1 ?side2 ?side3 ?side4 A8.1).mono ?_); (case side1 => repeat (first | exact HR502_0.1 | (with_reducible refine Kd.C_alloc ?_ _) | (with_reducible refine Kd.C_drewN ?_ _) | (with_reducible refine Kd.C_drew ?_))); (case side2 => exact HC502_0.1); (case side3 => repeat (first | exact HR503_0.1 | (with_reducible refine Kd.C_alloc ?_ _) | (with_reducible refine Kd.C_drewN ?_ _) | (with_reducible refine Kd.C_drew ?_))); (case side4 => exact HC503_0.1); rintro e w' ⟨rfl, ⟨nd, rfl⟩⟩; (try first | exact ⟨rfl, _, World.drewN_drewN _ _ _⟩ | exact ⟨rfl, _, Eq.trans (World.drewN_drewN _ _ _) (congrArg (World.drewN _) (Nat.add_assoc _ _ _))⟩))); try go_wp2_with (fail))
        go_ret
        exact ⟨by first | rfl | (simp; done) | (simp [*]; done), by repeat (first | exact Drawn0.refl _ | apply Drawn0.step)⟩
       rw [if_neg c7] at H; exact absurd H (by simp)
      rw [if_neg c6] at H; exact absurd H (by simp)
     rw [if_neg c5] at H; exact absurd H (by simp)
    rw [if_neg c4] at H; have c4b0 : decide (x13_1 < (l0.length : Int)) = false := decide_eq_false c4; clear c4; obtain rfl := Option.some.inj H
    go_wp2
    repeat (go_quiet (fail); try go_wp2)
    go_ret
    exact ⟨by first | rfl | (simp; done) | (simp [*]; done), by repeat (first | exact Drawn0.refl _ | apply Drawn0.step)⟩
 rw [if_neg c3] at H; have c3b0 : ((l0.length : Int) == (l1.length : Int)) = false := beq_eq_false_iff_ne.mpr c3; have c3b1 : ((l0.length : Int) != (l1.length : Int)) = true := bne_iff_ne.mpr c3; have c3b2 : (l0.length == l1.length) = false := by first | simpa using c3 | (simp at c3 ⊢; omega)
 obtain rfl := Option.some.inj H; go_enter Tryz.func29, Tryz.ntmps29
 go_wp2
 repeat (go_quiet (fail); try go_wp2)
 go_ret
 exact ⟨by first | rfl | (simp; done) | (simp [*]; done), by repeat (first | exact Drawn0.refl _ | apply Drawn0.step)⟩

end Go.Proofs.YtoideilmkcpilaaGreatDoor.OFnWalkersMeet
