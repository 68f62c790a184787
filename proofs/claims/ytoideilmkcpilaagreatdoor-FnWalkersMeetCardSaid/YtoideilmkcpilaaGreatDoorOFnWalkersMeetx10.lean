/- The law FnWalkersMeet: contracts of functions, written by a program (after the kit's print). -/
import Derived.Test.YtoideilmkcpilaaGreatDoorOFnWalkersMeetx0
import Derived.Test.YtoideilmkcpilaaGreatDoorOFnWalkersMeetx2
namespace Go.Proofs.YtoideilmkcpilaaGreatDoor.OFnWalkersMeet
open Go.RowKit Go.Proofs.YtoideilmkcpilaaGreatDoorW.PrintWords Go.Proofs.YtoideilmkcpilaaGreatDoorW.PrintLast Go.Proofs.YtoideilmkcpilaaGreatDoorW.PrintMore
attribute [local go_sem] max2_int min2_int max_two min_two max_three min_three max_four min_four   -- for this text's walks alone
set_option linter.unusedVariables false
set_option linter.unusedSimpArgs false
open List (setIfInBounds_toArray set_cons_zero set_cons_succ)

/-! ### spec_l1Cur_spoilt: function 54 -/
mutual
def spec_l1Cur_spoilt.l0 : Nat → ByteArray → ByteArray → Int → List Int → Int → Int → Option (ByteArray × Int × Int)
 | 0, _, _, _, _, _, _ => none
 | k + 1, x1, x2, x7, x1000, x1001, x1002 => if x7 > 0 then (spec_l1Cur_spoilt.j1 k x1 x2 x7 (decide ((x1.size : Int) > 0)) x1000 x1001 x1002) else (spec_l1Cur_spoilt.j1 k x1 x2 x7 false x1000 x1001 x1002)
def spec_l1Cur_spoilt.j1 : Nat → ByteArray → ByteArray → Int → Bool → List Int → Int → Int → Option (ByteArray × Int × Int)
 | 0, _, _, _, _, _, _, _ => none
 | k + 1, x1, x2, x7, x19, x1000, x1001, x1002 => if x19 = true then ((spec_l1Cur_pick.f x1000 x1001 x1002 (x1.size : Int)).bind fun bt438 => ((spec_l1Cur_pick.f x1000 bt438.2.1 bt438.2.2 (x2.size : Int)).bind fun bt441 => (if 0 ≤ bt441.1 then (if bt441.1 < (x2.size : Int) then ((some (([bt x2 bt441.1] : List Int) : List Int)).bind fun y444 => ((spec_l1Cur_pick.f x1000 bt441.2.1 bt441.2.2 3).bind fun bt447 => (if bt447.1 = 0 then (if 0 ≤ bt438.1 then (if bt438.1 ≤ (x1.size : Int) then (if (x1.extract 0 (bt438.1 : Int).toNat).size + (strOfNums y444).size ≤ 9223372036854775807 then (if ((x1.extract 0 (bt438.1 : Int).toNat) ++ (strOfNums y444)).size + (x1.extract (bt438.1 : Int).toNat x1.size).size ≤ 9223372036854775807 then (spec_l1Cur_spoilt.l0 k (((x1.extract 0 (bt438.1 : Int).toNat) ++ (strOfNums y444)) ++ (x1.extract (bt438.1 : Int).toNat x1.size)) x2 (wrap64 (x7 - 1)) x1000 bt447.2.1 bt447.2.2) else (none)) else (none)) else (none)) else (none)) else (if bt447.1 = 1 then (if 0 ≤ bt438.1 then (if bt438.1 ≤ (x1.size : Int) then (if (x1.extract 0 (bt438.1 : Int).toNat).size + (strOfNums y444).size ≤ 9223372036854775807 then (if 0 ≤ (wrap64 (bt438.1 + 1)) then (if (wrap64 (bt438.1 + 1)) ≤ (x1.size : Int) then (if ((x1.extract 0 (bt438.1 : Int).toNat) ++ (strOfNums y444)).size + (x1.extract ((wrap64 (bt438.1 + 1)) : Int).toNat x1.size).size ≤ 9223372036854775807 then (spec_l1Cur_spoilt.l0 k (((x1.extract 0 (bt438.1 : Int).toNat) ++ (strOfNums y444)) ++ (x1.extract ((wrap64 (bt438.1 + 1)) : Int).toNat x1.size)) x2 (wrap64 (x7 - 1)) x1000 bt447.2.1 bt447.2.2) else (none)) else (none)) else (none)) else (none)) else (none)) else (none)) else (if 0 ≤ bt438.1 then (if bt438.1 ≤ (x1.size : Int) then (if 0 ≤ (wrap64 (bt438.1 + 1)) then (if (wrap64 (bt438.1 + 1)) ≤ (x1.size : Int) then (if (x1.extract 0 (bt438.1 : Int).toNat).size + (x1.extract ((wrap64 (bt438.1 + 1)) : Int).toNat x1.size).size ≤ 9223372036854775807 then (spec_l1Cur_spoilt.l0 k ((x1.extract 0 (bt438.1 : Int).toNat) ++ (x1.extract ((wrap64 (bt438.1 + 1)) : Int).toNat x1.size)) x2 (wrap64 (x7 - 1)) x1000 bt447.2.1 bt447.2.2) else (none)) else (none)) else (none)) else (none)) else (none)))))) else (none)) else (none)))) else (some (x1, x1001, x1002))
end
def spec_l1Cur_spoilt.f (k : Nat) (s0_0 : List Int) (s0_1 : Int) (s0_2 : Int) (a1 : ByteArray) (a2 : ByteArray) : Option (ByteArray × Int × Int) := (spec_l1Cur_pick.f s0_0 s0_1 s0_2 2).bind fun bt435 => (spec_l1Cur_spoilt.l0 k a1 a2 (wrap64 (1 + bt435.1)) s0_0 bt435.2.1 bt435.2.2)
set_option maxHeartbeats 8000000 in
set_option maxRecDepth 100000 in
theorem spec_l1Cur_spoilt.calls (k : Nat) (g : Nat) (s0_0 : List Int) (s0_1 : Int) (s0_2 : Int) (a1 : ByteArray) (a2 : ByteArray) (r1 : ByteArray) (r2 : Int) (r3 : Int) (w0 w : World) (hI : jg w0 w g s0_0 s0_1 s0_2) (hB : Below w0.heap.size w0 w) (h : spec_l1Cur_spoilt.f k s0_0 s0_1 s0_2 a1 a2 = some (r1, r2, r3)) :
  Calls Tryz.prog 54 #[.pointer (some ⟨g, 0, none⟩), .string a1, .string a2] w fun e w' => e = .returned (.string r1) ∧ jg w0 w' g s0_0 r2 r3 ∧ Below w0.heap.size w0 w' ∧ qj w w' g none := by
 have HI0 := jb.mk hI; have HK := jb.mk (qj.refl w g none); have HL := jb.mk hB.size; clear hI; have HW0 := jb.mk hB.size; have HB := jb.mk hB; clear hB; have H : ((spec_l1Cur_pick.f s0_0 s0_1 s0_2 2).bind fun bt435 => (spec_l1Cur_spoilt.l0 k a1 a2 (wrap64 (1 + bt435.1)) s0_0 bt435.2.1 bt435.2.2)) = some (r1, r2, r3) := h; clear h; replace H := Option.bind_eq_some_iff.mp H; obtain ⟨⟨t435, t436, t437⟩, A40, H⟩ := H
 try dsimp only at H
 have A4 := jb.mk A40; clear A40; have H' := jb.mk H; clear H; go_enter Tryz.func54, Tryz.ntmps54
 go_wp2_with ((go_at_call 61; (with_reducible refine (spec_l1Cur_pick.calls g s0_0 s0_1 s0_2 2 t435 t436 t437 w0 _ ?side1 ?side2 A4.1).mono ?_); (case side1 => repeat (first | (with_reducible first | exact HI0.1 | apply jg.alloc | apply jg.drewN | apply jg.drew | apply jg.set_1 | apply jg.set_2) | exact HI0.1)); (case side2 => repeat (first | (with_reducible first | exact HB.1 | apply qb | apply qa | apply qc | refine qd ?_ (jg.ge HI0.1)) | exact HB.1)); rintro e w5 ⟨rfl, hi, hb, hk⟩; have n0_ := jb.mk (qj.trans (by repeat (first | (with_reducible first | exact HK.1 | apply qj.set_ | apply qm | apply qt | apply qo) | exact HK.1)) hk (.inl rfl)); have n1_ := jb.mk (hb); have n2_ := jb.mk (hi); clear HK; clear HB; clear HI0; have HK := n0_; have HB := n1_; have HI0 := n2_; clear n0_ n1_ n2_; (try clear hb); (try clear hb2); (try clear hk); (try clear hi)))
 repeat (go_quiet (fail); try go_wp2_with (fail))
 go_loopg [1, 7] k (fun kq v1 v7 w' => ∃ (x1_1 : ByteArray) (x7_1 : Int) (x1001_1 : Int) (x1002_1 : Int), v1 = .string x1_1 ∧ v7 = .int .i64 x7_1 ∧ jb (spec_l1Cur_spoilt.l0 kq x1_1 a2 x7_1 s0_0 x1001_1 x1002_1 = some (r1, r2, r3)) ∧ jb (kq ≤ k) ∧ jb (jg w0 w' g s0_0 x1001_1 x1002_1) ∧ jb (qj w w' g none) ∧ jb (Below w0.heap.size w0 w'))
 case atStart => exact ⟨(a1), (wrap64 (1 + t435)), (t436), (t437), (by first | rfl | (simp; done) | (simp [*]; done)), (by first | rfl | (simp; done) | (simp [*]; done)), H', ⟨Nat.le_refl _⟩, ⟨by repeat (first | (with_reducible first | exact HI0.1 | apply jg.alloc | apply jg.drewN | apply jg.drew | apply jg.set_1 | apply jg.set_2) | exact HI0.1)⟩, ⟨by repeat (first | (with_reducible first | exact HK.1 | apply qj.set_ | apply qm | apply qt | apply qo) | exact HK.1)⟩, ⟨by repeat (first | (with_reducible first | exact HB.1 | apply qb | apply qa | apply qc | refine qd ?_ (jg.ge HI0.1)) | exact HB.1)⟩⟩
 case round =>
  clear H'; (try clear p2); (try clear c5); obtain ⟨x1_1, x7_1, x1001_1, x1002_1, rfl, rfl, HA, HK1, HI0, HK, HB⟩ := hrel; cases gk with
  | zero => exact absurd HA.1 (by simp [spec_l1Cur_spoilt.l0])
  | succ k1 =>
   have H := HA.1; clear HA; simp only [spec_l1Cur_spoilt.l0] at H; have HC6 := jb.mk H; clear H
   go_upto_region 2 with (fail)
   repeat (go_quiet (fail); go_upto_region 2 with (fail))
   go_cut [19] (fun v19 wc => ∃ (kq : Nat) (x19_5 : Bool), v19 = .bool x19_5 ∧ jb (spec_l1Cur_spoilt.j1 kq x1_1 a2 x7_1 x19_5 s0_0 x1001_1 x1002_1 = some (r1, r2, r3)) ∧ jb (kq ≤ k1) ∧ jb (jg w0 wc g s0_0 x1001_1 x1002_1) ∧ jb (qj w wc g none) ∧ jb (Below w0.heap.size w0 wc))
   case first =>
    have H := HC6.1; clear HC6
    by_cases c7 : x7_1 > 0
    ·rw [if_pos c7] at H; have c7b0 : decide (0 < x7_1) = true := decide_eq_true c7; clear c7
     (first | rw [c7b0] | (simp only [i64_w, i32_w]; rw [c7b0]) | skip)
     have H' := jb.mk H; clear H
     go_wp2
     repeat (go_quiet (fail); try go_wp2)
     go_meet
     case rel => exact ⟨_, (decide ((x1_1.size : Int) > 0)), (by first | rfl | (simp; done) | (simp [*]; done)), H', ⟨by have := HK1.1; first | omega | exact Nat.le_refl _⟩, ⟨by repeat (first | (with_reducible first | exact HI0.1 | apply jg.alloc | apply jg.drewN | apply jg.drew | apply jg.set_1 | apply jg.set_2) | exact HI0.1)⟩, ⟨by repeat (first | (with_reducible first | exact HK.1 | apply qj.set_ | apply qm | apply qt | apply qo) | exact HK.1)⟩, ⟨by repeat (first | (with_reducible first | exact HB.1 | apply qb | apply qa | apply qc | refine qd ?_ (jg.ge HI0.1)) | exact HB.1)⟩⟩
    rw [if_neg c7] at H; have c7b0 : decide (0 < x7_1) = false := decide_eq_false c7; clear c7
    (first | rw [c7b0] | (simp only [i64_w, i32_w]; rw [c7b0]) | skip)
    have H' := jb.mk H; clear H
    go_wp2
    repeat (go_quiet (fail); try go_wp2)
    go_meet
    case rel => exact ⟨_, (false), (by first | rfl | (simp; done) | (simp [*]; done)), H', ⟨by have := HK1.1; first | omega | exact Nat.le_refl _⟩, ⟨by repeat (first | (with_reducible first | exact HI0.1 | apply jg.alloc | apply jg.drewN | apply jg.drew | apply jg.set_1 | apply jg.set_2) | exact HI0.1)⟩, ⟨by repeat (first | (with_reducible first | exact HK.1 | apply qj.set_ | apply qm | apply qt | apply qo) | exact HK.1)⟩, ⟨by repeat (first | (with_reducible first | exact HB.1 | apply qb | apply qa | apply qc | refine qd ?_ (jg.ge HI0.1)) | exact HB.1)⟩⟩
   case rest =>
    clear HC6; (try clear p2); (try clear c5); (try clear p6); (try clear c7); (try clear c7b0); (try clear p2); obtain ⟨kq, x19_5, rfl, HA, HJ5, HI0, HK, HB⟩ := hcut; cases kq with
    | zero => exact absurd HA.1 (by simp [spec_l1Cur_spoilt.j1])
    | succ kj5 =>
     have H := HA.1; clear HA; simp only [spec_l1Cur_spoilt.j1] at H
     by_cases c8 : x19_5 = true
     ·subst c8; rw [if_pos rfl] at H; replace H := Option.bind_eq_some_iff.mp H; obtain ⟨⟨t438, t439, t440⟩, A90, H⟩ := H
      try dsimp only at H
      have A9 := jb.mk A90; clear A90; replace H := Option.bind_eq_some_iff.mp H; obtain ⟨⟨t441, t442, t443⟩, A100, H⟩ := H
      try dsimp only at H
      have A10 := jb.mk A100; clear A100
      by_cases c11 : 0 ≤ t441
      ·rw [if_pos c11] at H; have c11b0 : decide (0 ≤ t441) = true := decide_eq_true c11; clear c11
       by_cases c12 : t441 < (a2.size : Int)
       ·rw [if_pos c12] at H; have c12b0 : decide (t441 < (a2.size : Int)) = true := decide_eq_true c12; clear c12; obtain ⟨y444, hy444⟩ : ∃ y_ : List Int, y_ = (([bt a2 t441] : List Int)) := ⟨_, rfl⟩; replace H : ((spec_l1Cur_pick.f s0_0 t442 t443 3).bind fun bt447 => (if bt447.1 = 0 then (if 0 ≤ t438 then (if t438 ≤ (x1_1.size : Int) then (if (x1_1.extract 0 (t438 : Int).toNat).size + (strOfNums y444).size ≤ 9223372036854775807 then (if ((x1_1.extract 0 (t438 : Int).toNat) ++ (strOfNums y444)).size + (x1_1.extract (t438 : Int).toNat x1_1.size).size ≤ 9223372036854775807 then (spec_l1Cur_spoilt.l0 kj5 (((x1_1.extract 0 (t438 : Int).toNat) ++ (strOfNums y444)) ++ (x1_1.extract (t438 : Int).toNat x1_1.size)) a2 (wrap64 (x7_1 - 1)) s0_0 bt447.2.1 bt447.2.2) else (none)) else (none)) else (none)) else (none)) else (if bt447.1 = 1 then (if 0 ≤ t438 then (if t438 ≤ (x1_1.size : Int) then (if (x1_1.extract 0 (t438 : Int).toNat).size + (strOfNums y444).size ≤ 9223372036854775807 then (if 0 ≤ (wrap64 (t438 + 1)) then (if (wrap64 (t438 + 1)) ≤ (x1_1.size : Int) then (if ((x1_1.extract 0 (t438 : Int).toNat) ++ (strOfNums y444)).size + (x1_1.extract ((wrap64 (t438 + 1)) : Int).toNat x1_1.size).size ≤ 9223372036854775807 then (spec_l1Cur_spoilt.l0 kj5 (((x1_1.extract 0 (t438 : Int).toNat) ++ (strOfNums y444)) ++ (x1_1.extract ((wrap64 (t438 + 1)) : Int).toNat x1_1.size)) a2 (wrap64 (x7_1 - 1)) s0_0 bt447.2.1 bt447.2.2) else (none)) else (none)) else (none)) else (none)) else (none)) else (none)) else (if 0 ≤ t438 then (if t438 ≤ (x1_1.size : Int) then (if 0 ≤ (wrap64 (t438 + 1)) then (if (wrap64 (t438 + 1)) ≤ (x1_1.size : Int) then (if (x1_1.extract 0 (t438 : Int).toNat).size + (x1_1.extract ((wrap64 (t438 + 1)) : Int).toNat x1_1.size).size ≤ 9223372036854775807 then (spec_l1Cur_spoilt.l0 kj5 ((x1_1.extract 0 (t438 : Int).toNat) ++ (x1_1.extract ((wrap64 (t438 + 1)) : Int).toNat x1_1.size)) a2 (wrap64 (x7_1 - 1)) s0_0 bt447.2.1 bt447.2.2) else (none)) else (none)) else (none)) else (none)) else (none))))) = some (r1, r2, r3) := by first | (rw [hy444]; with_reducible exact H) | (have H2_ := (Option.bind_some _ _).symm.trans H; rw [hy444]; with_reducible exact H2_) | (have H2_ := (Option.bind_some _ _).symm.trans H; with_reducible exact H2_) | with_reducible exact H | (rw [hy444]; exact H) | exact H
        have Ny444 := jb.mk hy444; clear hy444; replace H := Option.bind_eq_some_iff.mp H; obtain ⟨⟨t447, t448, t449⟩, A140, H⟩ := H
        try dsimp only at H
        have A14 := jb.mk A140; clear A140
        by_cases c15 : t447 = 0
        ·rw [if_pos c15] at H; have c15b0 : (t447 == 0) = true := beq_iff_eq.mpr c15; have c15b1 : (t447 != 0) = false := bne_eq_false_iff_eq.mpr c15; clear c15
         by_cases c16 : 0 ≤ t438
         ·rw [if_pos c16] at H; have c16b0 := eq_true c16; have c16b1 : decide (0 ≤ t438) = true := decide_eq_true c16; clear c16
          by_cases c17 : t438 ≤ (x1_1.size : Int)
          ·rw [if_pos c17] at H; have c17b0 := eq_true c17; have c17b1 : decide (t438 ≤ (x1_1.size : Int)) = true := decide_eq_true c17; clear c17
           by_cases c18 : (x1_1.extract 0 (t438 : Int).toNat).size + (strOfNums y444).size ≤ 9223372036854775807
           ·rw [if_pos c18] at H; have c18b0 := eq_true c18; have c18b1 : decide ((x1_1.extract 0 (t438 : Int).toNat).size + (strOfNums y444).size ≤ 9223372036854775807) = true := decide_eq_true c18
            try have c18b2 : (9223372036854775807 < (x1_1.extract 0 (t438 : Int).toNat).size + (strOfNums y444).size) = False := eq_false (Nat.not_lt.2 c18)
            have c19b0 := eq_true (of_decide_eq_true (by first | (with_reducible assumption) | assumption) : 0 ≤ t438); have c20b0 := eq_true (of_decide_eq_true (by first | (with_reducible assumption) | assumption) : t438 ≤ (x1_1.size : Int))
            by_cases c21 : ((x1_1.extract 0 (t438 : Int).toNat) ++ (strOfNums y444)).size + (x1_1.extract (t438 : Int).toNat x1_1.size).size ≤ 9223372036854775807
            ·rw [if_pos c21] at H; have c21b0 := eq_true c21; have c21b1 : decide (((x1_1.extract 0 (t438 : Int).toNat) ++ (strOfNums y444)).size + (x1_1.extract (t438 : Int).toNat x1_1.size).size ≤ 9223372036854775807) = true := decide_eq_true c21
             try have c21b2 : (9223372036854775807 < ((x1_1.extract 0 (t438 : Int).toNat) ++ (strOfNums y444)).size + (x1_1.extract (t438 : Int).toNat x1_1.size).size) = False := eq_false (Nat.not_lt.2 c21)
             try (have c21b3 := c21b2; simp only [ByteArray.size_append] at c21b3)
             have H' := jb.mk H; clear H
             go_wp2_with (first | (go_at_call 61; (with_reducible refine (spec_l1Cur_pick.calls g s0_0 x1001_1 x1002_1 (x1_1.size : Int) t438 t439 t440 w0 _ ?side1 ?side2 A9.1).mono ?_); (case side1 => repeat (first | (with_reducible first | exact HI0.1 | apply jg.alloc | apply jg.drewN | apply jg.drew | apply jg.set_1 | apply jg.set_2) | exact HI0.1)); (case side2 => repeat (first | (with_reducible first | exact HB.1 | apply qb | apply qa | apply qc | refine qd ?_ (jg.ge HI0.1)) | exact HB.1)); rintro e w22 ⟨rfl, hi, hb, hk⟩; have n0_ := jb.mk (qj.trans (by repeat (first | (with_reducible first | exact HK.1 | apply qj.set_ | apply qm | apply qt | apply qo) | exact HK.1)) hk (.inl rfl)); have n1_ := jb.mk (hb); have n2_ := jb.mk (hi); clear HK; clear HB; clear HI0; have HK := n0_; have HB := n1_; have HI0 := n2_; clear n0_ n1_ n2_; (try clear hb); (try clear hb2); (try clear hk); (try clear hi)) | (go_at_call 61; (with_reducible refine (spec_l1Cur_pick.calls g s0_0 t439 t440 (a2.size : Int) t441 t442 t443 w0 _ ?side1 ?side2 A10.1).mono ?_); (case side1 => repeat (first | (with_reducible first | exact HI0.1 | apply jg.alloc | apply jg.drewN | apply jg.drew | apply jg.set_1 | apply jg.set_2) | exact HI0.1)); (case side2 => repeat (first | (with_reducible first | exact HB.1 | apply qb | apply qa | apply qc | refine qd ?_ (jg.ge HI0.1)) | exact HB.1)); rintro e w23 ⟨rfl, hi, hb, hk⟩; have n0_ := jb.mk (qj.trans (by repeat (first | (with_reducible first | exact HK.1 | apply qj.set_ | apply qm | apply qt | apply qo) | exact HK.1)) hk (.inl rfl)); have n1_ := jb.mk (hb); have n2_ := jb.mk (hi); clear HK; clear HB; clear HI0; have HK := n0_; have HB := n1_; have HI0 := n2_; clear n0_ n1_ n2_; (try clear hb); (try clear hb2); (try clear hk); (try clear hi); have p13 : 0 ≤ (t441 : Int) := of_decide_eq_true (by first | (with_reducible assumption) | assumption); have q13 : t441 < (a2.size : Int) := of_decide_eq_true (by first | (with_reducible assumption) | assumption); have hx13 := bt_at a2 t441; replace p13 := eq_true p13; replace q13 := eq_true q13) | ((with_reducible refine qv (N := 32) rfl ?_); (try (refine gate_guard (by rfl) ?_; dsimp only)); refine Kd.R_lit (Kd.int .u8) _ 5 ?hg (N := 32) ?hd (xs := ([bt a2 t441] : List Int)) (inner := [.int .u8 (bt a2 t441)]) (ok := fun _ => True) (okp := fun _ => True) ?hr ?hp (fun _ hk => hk) trivial (Below.refl _ _) (Nat.le_refl _) (by simp) ?_; (case hd => rfl); (case hg => rfl); (case hr => first | (go_simp; done) | (go_simp; rfl)); (case hp => exact (Reps.one (show Kd.M (Kd.int .u8) _ _ _ (bt a2 t441) [.int .u8 (bt a2 t441)] from rfl) (Reps.none _ _))); intro v445 w24 ho25 hb hg_ hnew_; clear hg_ hnew_; (first | rw [← Ny444.out] at ho25 | (simp only [Int.reduceToNat] at ho25; rw [← Ny444.out] at ho25)); have n0_ := jb.mk (Kd.R_lower ho25 (keep_size (w := w) (g := g) (row := none) (by repeat (first | (with_reducible first | exact HK.1 | apply qj.set_ | apply qm | apply qt | apply qo) | exact HK.1)))); have n1_ := jb.mk (jg.below (by repeat (first | (with_reducible first | exact HI0.1 | apply jg.alloc | apply jg.drewN | apply jg.drew | apply jg.set_1 | apply jg.set_2) | exact HI0.1)) hb); have n2_ := jb.mk (qj.trans (by repeat (first | (with_reducible first | exact HK.1 | apply qj.set_ | apply qm | apply qt | apply qo) | exact HK.1)) (qj.of_below hb g none) (.inl rfl)); have n3_ := jb.mk (qk (by repeat (first | (with_reducible first | exact HB.1 | apply qb | apply qa | apply qc | refine qd ?_ (jg.ge HI0.1)) | exact HB.1)) hb); clear HI0; clear HK; clear HB; have HO446 := n0_; have HI0 := n1_; have HK := n2_; have HB := n3_; clear n0_ n1_ n2_ n3_; clear hb ho25; have hcv26 := own_string (P := Tryz.prog) Tryz.underlying22 Tryz.underlying5 Tryz.underlying9 (Kd.own_of_R HO446.1)) | (go_at_call 61; (with_reducible refine (spec_l1Cur_pick.calls g s0_0 t442 t443 3 t447 t448 t449 w0 _ ?side1 ?side2 A14.1).mono ?_); (case side1 => repeat (first | (with_reducible first | exact HI0.1 | apply jg.alloc | apply jg.drewN | apply jg.drew | apply jg.set_1 | apply jg.set_2) | exact HI0.1)); (case side2 => repeat (first | (with_reducible first | exact HB.1 | apply qb | apply qa | apply qc | refine qd ?_ (jg.ge HI0.1)) | exact HB.1)); rintro e w27 ⟨rfl, hi, hb, hk⟩; have n0_ := jb.mk (Kd.R_mono (Kd.R_keep (jg.apart (show jg w0 _ g s0_0 t442 t443 from by repeat (first | (with_reducible first | exact HI0.1 | apply jg.alloc | apply jg.drewN | apply jg.drew | apply jg.set_1 | apply jg.set_2) | exact HI0.1)) (by (with_reducible repeat (first | apply Kd.ja | apply Kd.qz | apply Kd.R_drew)); exact HO446.1) (by decide)) hk (fun _ h => h.2)) (fun _ h => h.1)); have n1_ := jb.mk (qj.trans (by repeat (first | (with_reducible first | exact HK.1 | apply qj.set_ | apply qm | apply qt | apply qo) | exact HK.1)) hk (.inl rfl)); have n2_ := jb.mk (hb); have n3_ := jb.mk (hi); clear HO446; clear HK; clear HB; clear HI0; have HO446 := n0_; have HK := n1_; have HB := n2_; have HI0 := n3_; clear n0_ n1_ n2_ n3_; (try clear hb); (try clear hb2); (try clear hk); (try clear hi)))
             repeat (go_quiet (fail); try go_wp2_with (fail))
             go_roundg kj5
             case measure => have := HK1.1; have := HJ5.1; omega
             case rel => exact ⟨(((x1_1.extract 0 (t438 : Int).toNat) ++ (strOfNums y444)) ++ (x1_1.extract (t438 : Int).toNat x1_1.size)), (wrap64 (x7_1 - 1)), (t448), (t449), (by first | rfl | (simp; done) | (simp [*]; done)), (by first | rfl | (simp; done) | (simp [*]; done)), H', ⟨by have := HK1.1; have := HJ5.1; omega⟩, ⟨by repeat (first | (with_reducible first | exact HI0.1 | apply jg.alloc | apply jg.drewN | apply jg.drew | apply jg.set_1 | apply jg.set_2) | exact HI0.1)⟩, ⟨by repeat (first | (with_reducible first | exact HK.1 | apply qj.set_ | apply qm | apply qt | apply qo) | exact HK.1)⟩, ⟨by repeat (first | (with_reducible first | exact HB.1 | apply qb | apply qa | apply qc | refine qd ?_ (jg.ge HI0.1)) | exact HB.1)⟩⟩
            rw [if_neg c21] at H; exact absurd H (by simp)
           rw [if_neg c18] at H; exact absurd H (by simp)
          rw [if_neg c17] at H; exact absurd H (by simp)
         rw [if_neg c16] at H; exact absurd H (by simp)
        rw [if_neg c15] at H; have c15b0 : (t447 == 0) = false := beq_eq_false_iff_ne.mpr c15; have c15b1 : (t447 != 0) = true := bne_iff_ne.mpr c15
        by_cases c28 : t447 = 1
        ·rw [if_pos c28] at H; have c28b0 : (t447 == 1) = true := beq_iff_eq.mpr c28; have c28b1 : (t447 != 1) = false := bne_eq_false_iff_eq.mpr c28; clear c28
         by_cases c29 : 0 ≤ t438
         ·rw [if_pos c29] at H; have c29b0 := eq_true c29; have c29b1 : decide (0 ≤ t438) = true := decide_eq_true c29; clear c29
          by_cases c30 : t438 ≤ (x1_1.size : Int)
          ·rw [if_pos c30] at H; have c30b0 := eq_true c30; have c30b1 : decide (t438 ≤ (x1_1.size : Int)) = true := decide_eq_true c30; clear c30
           by_cases c31 : (x1_1.extract 0 (t438 : Int).toNat).size + (strOfNums y444).size ≤ 9223372036854775807
           ·rw [if_pos c31] at H; have c31b0 := eq_true c31; have c31b1 : decide ((x1_1.extract 0 (t438 : Int).toNat).size + (strOfNums y444).size ≤ 9223372036854775807) = true := decide_eq_true c31
            try have c31b2 : (9223372036854775807 < (x1_1.extract 0 (t438 : Int).toNat).size + (strOfNums y444).size) = False := eq_false (Nat.not_lt.2 c31)
            obtain ⟨ji32, hji32⟩ : ∃ j_ : Int, (wrap64 (t438 + 1)) = j_ := ⟨_, rfl⟩; replace H : (if 0 ≤ (ji32) then (if (ji32) ≤ (x1_1.size : Int) then (if ((x1_1.extract 0 (t438 : Int).toNat) ++ (strOfNums y444)).size + (x1_1.extract ((ji32) : Int).toNat x1_1.size).size ≤ 9223372036854775807 then (spec_l1Cur_spoilt.l0 kj5 (((x1_1.extract 0 (t438 : Int).toNat) ++ (strOfNums y444)) ++ (x1_1.extract ((ji32) : Int).toNat x1_1.size)) a2 (wrap64 (x7_1 - 1)) s0_0 t448 t449) else (none)) else (none)) else (none)) = some (r1, r2, r3) := by first | (rw [hji32] at H; exact H) | (simp only [hji32] at H ⊢; exact H)
            (try rw [hji32] at A9); (try rw [hji32] at A10); (try rw [hji32] at A14); have hji32w : (IntKind.i64.wrap (t438 + 1)) = ji32 := (i64_w _).trans hji32
            by_cases c33 : 0 ≤ (ji32)
            ·rw [if_pos c33] at H; have c33b0 := eq_true c33; have c33b1 : decide (0 ≤ (ji32)) = true := decide_eq_true c33; clear c33
             by_cases c34 : (ji32) ≤ (x1_1.size : Int)
             ·rw [if_pos c34] at H; have c34b0 := eq_true c34; have c34b1 : decide ((ji32) ≤ (x1_1.size : Int)) = true := decide_eq_true c34; clear c34
              by_cases c35 : ((x1_1.extract 0 (t438 : Int).toNat) ++ (strOfNums y444)).size + (x1_1.extract ((ji32) : Int).toNat x1_1.size).size ≤ 9223372036854775807
              ·rw [if_pos c35] at H; have c35b0 := eq_true c35; have c35b1 : decide (((x1_1.extract 0 (t438 : Int).toNat) ++ (strOfNums y444)).size + (x1_1.extract ((ji32) : Int).toNat x1_1.size).size ≤ 9223372036854775807) = true := decide_eq_true c35
               try have c35b2 : (9223372036854775807 < ((x1_1.extract 0 (t438 : Int).toNat) ++ (strOfNums y444)).size + (x1_1.extract ((ji32) : Int).toNat x1_1.size).size) = False := eq_false (Nat.not_lt.2 c35)
               try (have c35b3 := c35b2; simp only [ByteArray.size_append] at c35b3)
               have H' := jb.mk H; clear H
               go_wp2_with (first | (go_at_call 61; (with_reducible refine (spec_l1Cur_pick.calls g s0_0 x1001_1 x1002_1 (x1_1.size : Int) t438 t439 t440 w0 _ ?side1 ?side2 A9.1).mono ?_); (case side1 => repeat (first | (with_reducible first | exact HI0.1 | apply jg.alloc | apply jg.drewN | apply jg.drew | apply jg.set_1 | apply jg.set_2) | exact HI0.1)); (case side2 => repeat (first | (with_reducible first | exact HB.1 | apply qb | apply qa | apply qc | refine qd ?_ (jg.ge HI0.1)) | exact HB.1)); rintro e w36 ⟨rfl, hi, hb, hk⟩; have n0_ := jb.mk (qj.trans (by repeat (first | (with_reducible first | exact HK.1 | apply qj.set_ | apply qm | apply qt | apply qo) | exact HK.1)) hk (.inl rfl)); have n1_ := jb.mk (hb); have n2_ := jb.mk (hi); clear HK; clear HB; clear HI0; have HK := n0_; have HB := n1_; have HI0 := n2_; clear n0_ n1_ n2_; (try clear hb); (try clear hb2); (try clear hk); (try clear hi)) | (go_at_call 61; (with_reducible refine (spec_l1Cur_pick.calls g s0_0 t439 t440 (a2.size : Int) t441 t442 t443 w0 _ ?side1 ?side2 A10.1).mono ?_); (case side1 => repeat (first | (with_reducible first | exact HI0.1 | apply jg.alloc | apply jg.drewN | apply jg.drew | apply jg.set_1 | apply jg.set_2) | exact HI0.1)); (case side2 => repeat (first | (with_reducible first | exact HB.1 | apply qb | apply qa | apply qc | refine qd ?_ (jg.ge HI0.1)) | exact HB.1)); rintro e w37 ⟨rfl, hi, hb, hk⟩; have n0_ := jb.mk (qj.trans (by repeat (first | (with_reducible first | exact HK.1 | apply qj.set_ | apply qm | apply qt | apply qo) | exact HK.1)) hk (.inl rfl)); have n1_ := jb.mk (hb); have n2_ := jb.mk (hi); clear HK; clear HB; clear HI0; have HK := n0_; have HB := n1_; have HI0 := n2_; clear n0_ n1_ n2_; (try clear hb); (try clear hb2); (try clear hk); (try clear hi); have p13 : 0 ≤ (t441 : Int) := of_decide_eq_true (by first | (with_reducible assumption) | assumption); have q13 : t441 < (a2.size : Int) := of_decide_eq_true (by first | (with_reducible assumption) | assumption); have hx13 := bt_at a2 t441; replace p13 := eq_true p13; replace q13 := eq_true q13) | ((with_reducible refine qv (N := 32) rfl ?_); (try (refine gate_guard (by rfl) ?_; dsimp only)); refine Kd.R_lit (Kd.int .u8) _ 5 ?hg (N := 32) ?hd (xs := ([bt a2 t441] : List Int)) (inner := [.int .u8 (bt a2 t441)]) (ok := fun _ => True) (okp := fun _ => True) ?hr ?hp (fun _ hk => hk) trivial (Below.refl _ _) (Nat.le_refl _) (by simp) ?_; (case hd => rfl); (case hg => rfl); (case hr => first | (go_simp; done) | (go_simp; rfl)); (case hp => exact (Reps.one (show Kd.M (Kd.int .u8) _ _ _ (bt a2 t441) [.int .u8 (bt a2 t441)] from rfl) (Reps.none _ _))); intro v445 w38 ho39 hb hg_ hnew_; clear hg_ hnew_; (first | rw [← Ny444.out] at ho39 | (simp only [Int.reduceToNat] at ho39; rw [← Ny444.out] at ho39)); have n0_ := jb.mk (Kd.R_lower ho39 (keep_size (w := w) (g := g) (row := none) (by repeat (first | (with_reducible first | exact HK.1 | apply qj.set_ | apply qm | apply qt | apply qo) | exact HK.1)))); have n1_ := jb.mk (jg.below (by repeat (first | (with_reducible first | exact HI0.1 | apply jg.alloc | apply jg.drewN | apply jg.drew | apply jg.set_1 | apply jg.set_2) | exact HI0.1)) hb); have n2_ := jb.mk (qj.trans (by repeat (first | (with_reducible first | exact HK.1 | apply qj.set_ | apply qm | apply qt | apply qo) | exact HK.1)) (qj.of_below hb g none) (.inl rfl)); have n3_ := jb.mk (qk (by repeat (first | (with_reducible first | exact HB.1 | apply qb | apply qa | apply qc | refine qd ?_ (jg.ge HI0.1)) | exact HB.1)) hb); clear HI0; clear HK; clear HB; have HO446 := n0_; have HI0 := n1_; have HK := n2_; have HB := n3_; clear n0_ n1_ n2_ n3_; clear hb ho39; have hcv40 := own_string (P := Tryz.prog) Tryz.underlying22 Tryz.underlying5 Tryz.underlying9 (Kd.own_of_R HO446.1)) | (go_at_call 61; (with_reducible refine (spec_l1Cur_pick.calls g s0_0 t442 t443 3 t447 t448 t449 w0 _ ?side1 ?side2 A14.1).mono ?_); (case side1 => repeat (first | (with_reducible first | exact HI0.1 | apply jg.alloc | apply jg.drewN | apply jg.drew | apply jg.set_1 | apply jg.set_2) | exact HI0.1)); (case side2 => repeat (first | (with_reducible first | exact HB.1 | apply qb | apply qa | apply qc | refine qd ?_ (jg.ge HI0.1)) | exact HB.1)); rintro e w41 ⟨rfl, hi, hb, hk⟩; have n0_ := jb.mk (Kd.R_mono (Kd.R_keep (jg.apart (show jg w0 _ g s0_0 t442 t443 from by repeat (first | (with_reducible first | exact HI0.1 | apply jg.alloc | apply jg.drewN | apply jg.drew | apply jg.set_1 | apply jg.set_2) | exact HI0.1)) (by (with_reducible repeat (first | apply Kd.ja | apply Kd.qz | apply Kd.R_drew)); exact HO446.1) (by decide)) hk (fun _ h => h.2)) (fun _ h => h.1)); have n1_ := jb.mk (qj.trans (by repeat (first | (with_reducible first | exact HK.1 | apply qj.set_ | apply qm | apply qt | apply qo) | exact HK.1)) hk (.inl rfl)); have n2_ := jb.mk (hb); have n3_ := jb.mk (hi); clear HO446; clear HK; clear HB; clear HI0; have HO446 := n0_; have HK := n1_; have HB := n2_; have HI0 := n3_; clear n0_ n1_ n2_ n3_; (try clear hb); (try clear hb2); (try clear hk); (try clear hi)))
               repeat (go_quiet (fail); try go_wp2_with (fail))
               go_roundg kj5
               case measure => have := HK1.1; have := HJ5.1; omega
               case rel => exact ⟨(((x1_1.extract 0 (t438 : Int).toNat) ++ (strOfNums y444)) ++ (x1_1.extract ((ji32) : Int).toNat x1_1.size)), (wrap64 (x7_1 - 1)), (t448), (t449), (by first | rfl | (simp; done) | (simp only [← hji32] <;> (first | rfl | simp)) | (simp [*]; done)), (by first | rfl | (simp; done) | (simp [*]; done)), H', ⟨by have := HK1.1; have := HJ5.1; omega⟩, ⟨by repeat (first | (with_reducible first | exact HI0.1 | apply jg.alloc | apply jg.drewN | apply jg.drew | apply jg.set_1 | apply jg.set_2) | exact HI0.1)⟩, ⟨by repeat (first | (with_reducible first | exact HK.1 | apply qj.set_ | apply qm | apply qt | apply qo) | exact HK.1)⟩, ⟨by repeat (first | (with_reducible first | exact HB.1 | apply qb | apply qa | apply qc | refine qd ?_ (jg.ge HI0.1)) | exact HB.1)⟩⟩
              rw [if_neg c35] at H; exact absurd H (by simp)
             rw [if_neg c34] at H; exact absurd H (by simp)
            rw [if_neg c33] at H; exact absurd H (by simp)
           rw [if_neg c31] at H; exact absurd H (by simp)
          rw [if_neg c30] at H; exact absurd H (by simp)
         rw [if_neg c29] at H; exact absurd H (by simp)
        rw [if_neg c28] at H; have c28b0 : (t447 == 1) = false := beq_eq_false_iff_ne.mpr c28; have c28b1 : (t447 != 1) = true := bne_iff_ne.mpr c28
        by_cases c42 : 0 ≤ t438
        ·rw [if_pos c42] at H; have c42b0 := eq_true c42; have c42b1 : decide (0 ≤ t438) = true := decide_eq_true c42; clear c42
         by_cases c43 : t438 ≤ (x1_1.size : Int)
         ·rw [if_pos c43] at H; have c43b0 := eq_true c43; have c43b1 : decide (t438 ≤ (x1_1.size : Int)) = true := decide_eq_true c43; clear c43; obtain ⟨ji44, hji44⟩ : ∃ j_ : Int, (wrap64 (t438 + 1)) = j_ := ⟨_, rfl⟩; replace H : (if 0 ≤ (ji44) then (if (ji44) ≤ (x1_1.size : Int) then (if (x1_1.extract 0 (t438 : Int).toNat).size + (x1_1.extract ((ji44) : Int).toNat x1_1.size).size ≤ 9223372036854775807 then (spec_l1Cur_spoilt.l0 kj5 ((x1_1.extract 0 (t438 : Int).toNat) ++ (x1_1.extract ((ji44) : Int).toNat x1_1.size)) a2 (wrap64 (x7_1 - 1)) s0_0 t448 t449) else (none)) else (none)) else (none)) = some (r1, r2, r3) := by first | (rw [hji44] at H; exact H) | (simp only [hji44] at H ⊢; exact H)
          (try rw [hji44] at A9); (try rw [hji44] at A10); (try rw [hji44] at A14); have hji44w : (IntKind.i64.wrap (t438 + 1)) = ji44 := (i64_w _).trans hji44
          by_cases c45 : 0 ≤ (ji44)
          ·rw [if_pos c45] at H; have c45b0 := eq_true c45; have c45b1 : decide (0 ≤ (ji44)) = true := decide_eq_true c45; clear c45
           by_cases c46 : (ji44) ≤ (x1_1.size : Int)
           ·rw [if_pos c46] at H; have c46b0 := eq_true c46; have c46b1 : decide ((ji44) ≤ (x1_1.size : Int)) = true := decide_eq_true c46; clear c46
            by_cases c47 : (x1_1.extract 0 (t438 : Int).toNat).size + (x1_1.extract ((ji44) : Int).toNat x1_1.size).size ≤ 9223372036854775807
            ·rw [if_pos c47] at H; have c47b0 := eq_true c47; have c47b1 : decide ((x1_1.extract 0 (t438 : Int).toNat).size + (x1_1.extract ((ji44) : Int).toNat x1_1.size).size ≤ 9223372036854775807) = true := decide_eq_true c47
             try have c47b2 : (9223372036854775807 < (x1_1.extract 0 (t438 : Int).toNat).size + (x1_1.extract ((ji44) : Int).toNat x1_1.size).size) = False := eq_false (Nat.not_lt.2 c47)
             have H' := jb.mk H; clear H
             go_wp2_with (first | (go_at_call 61; (with_reducible refine (spec_l1Cur_pick.calls g s0_0 x1001_1 x1002_1 (x1_1.size : Int) t438 t439 t440 w0 _ ?side1 ?side2 A9.1).mono ?_); (case side1 => repeat (first | (with_reducible first | exact HI0.1 | apply jg.alloc | apply jg.drewN | apply jg.drew | apply jg.set_1 | apply jg.set_2) | exact HI0.1)); (case side2 => repeat (first | (with_reducible first | exact HB.1 | apply qb | apply qa | apply qc | refine qd ?_ (jg.ge HI0.1)) | exact HB.1)); rintro e w48 ⟨rfl, hi, hb, hk⟩; have n0_ := jb.mk (qj.trans (by repeat (first | (with_reducible first | exact HK.1 | apply qj.set_ | apply qm | apply qt | apply qo) | exact HK.1)) hk (.inl rfl)); have n1_ := jb.mk (hb); have n2_ := jb.mk (hi); clear HK; clear HB; clear HI0; have HK := n0_; have HB := n1_; have HI0 := n2_; clear n0_ n1_ n2_; (try clear hb); (try clear hb2); (try clear hk); (try clear hi)) | (go_at_call 61; (with_reducible refine (spec_l1Cur_pick.calls g s0_0 t439 t440 (a2.size : Int) t441 t442 t443 w0 _ ?side1 ?side2 A10.1).mono ?_); (case side1 => repeat (first | (with_reducible first | exact HI0.1 | apply jg.alloc | apply jg.drewN | apply jg.drew | apply jg.set_1 | apply jg.set_2) | exact HI0.1)); (case side2 => repeat (first | (with_reducible first | exact HB.1 | apply qb | apply qa | apply qc | refine qd ?_ (jg.ge HI0.1)) | exact HB.1)); rintro e w49 ⟨rfl, hi, hb, hk⟩; have n0_ := jb.mk (qj.trans (by repeat (first | (with_reducible first | exact HK.1 | apply qj.set_ | apply qm | apply qt | apply qo) | exact HK.1)) hk (.inl rfl)); have n1_ := jb.mk (hb); have n2_ := jb.mk (hi); clear HK; clear HB; clear HI0; have HK := n0_; have HB := n1_; have HI0 := n2_; clear n0_ n1_ n2_; (try clear hb); (try clear hb2); (try clear hk); (try clear hi); have p13 : 0 ≤ (t441 : Int) := of_decide_eq_true (by first | (with_reducible assumption) | assumption); have q13 : t441 < (a2.size : Int) := of_decide_eq_true (by first | (with_reducible assumption) | assumption); have hx13 := bt_at a2 t441; replace p13 := eq_true p13; replace q13 := eq_true q13) | ((with_reducible refine qv (N := 32) rfl ?_); (try (refine gate_guard (by rfl) ?_; dsimp only)); refine Kd.R_lit (Kd.int .u8) _ 5 ?hg (N := 32) ?hd (xs := ([bt a2 t441] : List Int)) (inner := [.int .u8 (bt a2 t441)]) (ok := fun _ => True) (okp := fun _ => True) ?hr ?hp (fun _ hk => hk) trivial (Below.refl _ _) (Nat.le_refl _) (by simp) ?_; (case hd => rfl); (case hg => rfl); (case hr => first | (go_simp; done) | (go_simp; rfl)); (case hp => exact (Reps.one (show Kd.M (Kd.int .u8) _ _ _ (bt a2 t441) [.int .u8 (bt a2 t441)] from rfl) (Reps.none _ _))); intro v445 w50 ho51 hb hg_ hnew_; clear hg_ hnew_; (first | rw [← Ny444.out] at ho51 | (simp only [Int.reduceToNat] at ho51; rw [← Ny444.out] at ho51)); have n0_ := jb.mk (Kd.R_lower ho51 (keep_size (w := w) (g := g) (row := none) (by repeat (first | (with_reducible first | exact HK.1 | apply qj.set_ | apply qm | apply qt | apply qo) | exact HK.1)))); have n1_ := jb.mk (jg.below (by repeat (first | (with_reducible first | exact HI0.1 | apply jg.alloc | apply jg.drewN | apply jg.drew | apply jg.set_1 | apply jg.set_2) | exact HI0.1)) hb); have n2_ := jb.mk (qj.trans (by repeat (first | (with_reducible first | exact HK.1 | apply qj.set_ | apply qm | apply qt | apply qo) | exact HK.1)) (qj.of_below hb g none) (.inl rfl)); have n3_ := jb.mk (qk (by repeat (first | (with_reducible first | exact HB.1 | apply qb | apply qa | apply qc | refine qd ?_ (jg.ge HI0.1)) | exact HB.1)) hb); clear HI0; clear HK; clear HB; have HO446 := n0_; have HI0 := n1_; have HK := n2_; have HB := n3_; clear n0_ n1_ n2_ n3_; clear hb ho51; have hcv52 := own_string (P := Tryz.prog) Tryz.underlying22 Tryz.underlying5 Tryz.underlying9 (Kd.own_of_R HO446.1)) | (go_at_call 61; (with_reducible refine (spec_l1Cur_pick.calls g s0_0 t442 t443 3 t447 t448 t449 w0 _ ?side1 ?side2 A14.1).mono ?_); (case side1 => repeat (first | (with_reducible first | exact HI0.1 | apply jg.alloc | apply jg.drewN | apply jg.drew | apply jg.set_1 | apply jg.set_2) | exact HI0.1)); (case side2 => repeat (first | (with_reducible first | exact HB.1 | apply qb | apply qa | apply qc | refine qd ?_ (jg.ge HI0.1)) | exact HB.1)); rintro e w53 ⟨rfl, hi, hb, hk⟩; have n0_ := jb.mk (Kd.R_mono (Kd.R_keep (jg.apart (show jg w0 _ g s0_0 t442 t443 from by repeat (first | (with_reducible first | exact HI0.1 | apply jg.alloc | apply jg.drewN | apply jg.drew | apply jg.set_1 | apply jg.set_2) | exact HI0.1)) (by (with_reducible repeat (first | apply Kd.ja | apply Kd.qz | apply Kd.R_drew)); exact HO446.1) (by decide)) hk (fun _ h => h.2)) (fun _ h => h.1)); have n1_ := jb.mk (qj.trans (by repeat (first | (with_reducible first | exact HK.1 | apply qj.set_ | apply qm | apply qt | apply qo) | exact HK.1)) hk (.inl rfl)); have n2_ := jb.mk (hb); have n3_ := jb.mk (hi); clear HO446; clear HK; clear HB; clear HI0; have HO446 := n0_; have HK := n1_; have HB := n2_; have HI0 := n3_; clear n0_ n1_ n2_ n3_; (try clear hb); (try clear hb2); (try clear hk); (try clear hi)))
             repeat (go_quiet (fail); try go_wp2_with (fail))
             go_roundg kj5
             case measure => have := HK1.1; have := HJ5.1; omega
             case rel => exact ⟨((x1_1.extract 0 (t438 : Int).toNat) ++ (x1_1.extract ((ji44) : Int).toNat x1_1.size)), (wrap64 (x7_1 - 1)), (t448), (t449), (by first | rfl | (simp; done) | (simp only [← hji44] <;> (first | rfl | simp)) | (simp [*]; done)), (by first | rfl | (simp; done) | (simp [*]; done)), H', ⟨by have := HK1.1; have := HJ5.1; omega⟩, ⟨by repeat (first | (with_reducible first | exact HI0.1 | apply jg.alloc | apply jg.drewN | apply jg.drew | apply jg.set_1 | apply jg.set_2) | exact HI0.1)⟩, ⟨by repeat (first | (with_reducible first | exact HK.1 | apply qj.set_ | apply qm | apply qt | apply qo) | exact HK.1)⟩, ⟨by repeat (first | (with_reducible first | exact HB.1 | apply qb | apply qa | apply qc | refine qd ?_ (jg.ge HI0.1)) | exact HB.1)⟩⟩
            rw [if_neg c47] at H; exact absurd H (by simp)
           rw [if_neg c46] at H; exact absurd H (by simp)
          rw [if_neg c45] at H; exact absurd H (by simp)
         rw [if_neg c43] at H; exact absurd H (by simp)
        rw [if_neg c42] at H; exact absurd H (by simp)
       rw [if_neg c12] at H; exact absurd H (by simp)
      rw [if_neg c11] at H; exact absurd H (by simp)
     replace c8 := Bool.eq_false_iff.mpr c8; subst c8; rw [if_neg (show ¬ (false = true) by decide)] at H; simp only [Option.some.injEq, Prod.mk.injEq] at H; obtain ⟨rfl, rfl, rfl⟩ := H
     go_wp2
     repeat (go_quiet (fail); try go_wp2)
     go_ret
     exact ⟨by first | rfl | (simp [qr, qq] <;> rfl) | (simp [*, qr, qq] <;> rfl), by repeat (first | (with_reducible first | exact HI0.1 | apply jg.alloc | apply jg.drewN | apply jg.drew | apply jg.set_1 | apply jg.set_2) | exact HI0.1), by repeat (first | (with_reducible first | exact HB.1 | apply qb | apply qa | apply qc | refine qd ?_ (jg.ge HI0.1)) | exact HB.1), by repeat (first | (with_reducible first | exact HK.1 | apply qj.set_ | apply qm | apply qt | apply qo) | exact HK.1)⟩

-- NOT PRINTED: function 26 (spec_DrawParseWalkers)

-- NOT PRINTED: function 97 (utf8_RuneCountInString)

-- NOT PRINTED: function 108 (utf8_decodeRuneInStringSlow)

-- NOT PRINTED: function 98 (utf8_DecodeRuneInString)

-- NOT PRINTED: function 87 (strings_explode)

-- NOT PRINTED: function 124 (bytealg_IndexByteString)

-- NOT PRINTED: function 109 (stringslite_IndexByte)

-- NOT PRINTED: function 110 (bytealg_IndexString)

-- NOT PRINTED: function 111 (bytealg_Cutover)

-- NOT PRINTED: function 125 (bytealg_hashStr_string)

-- NOT PRINTED: function 112 (bytealg_IndexRabinKarp_string)

-- NOT PRINTED: function 100 (stringslite_Index)

-- NOT PRINTED: function 89 (strings_Index)

-- NOT PRINTED: function 99 (bytealg_CountString)

-- NOT PRINTED: function 88 (strings_Count)

-- NOT PRINTED: function 75 (strings_genSplit)

-- NOT PRINTED: function 55 (strings_Split)

-- NOT PRINTED: function 131 (strconv_lower)

-- NOT PRINTED: function 132 (strconv_underscoreOK)

-- NOT PRINTED: function 126 (strconv_ParseUint)

-- NOT PRINTED: function 113 (strconv_ParseInt)

-- NOT PRINTED: function 101 (strconv_Atoi_101)

-- NOT PRINTED: function 127 (stringslite_Clone)

-- NOT PRINTED: function 114 (strconv_syntaxError)

-- NOT PRINTED: function 115 (strconv_rangeError)

-- NOT PRINTED: function 128 (errors_New)

-- NOT PRINTED: function 116 (strconv_baseError)

-- NOT PRINTED: function 117 (strconv_bitSizeError)

-- NOT PRINTED: function 102 (strconv_toError)

-- NOT PRINTED: function 90 (strconv_Atoi_90)

-- NOT PRINTED: function 76 (impl_readNumber)

-- NOT PRINTED: function 56 (impl_readNumbers)

-- NOT PRINTED: function 27 (impl_ParseWalkers)

/-! ### spec_l1Split: function 77 -/
def spec_l1Split.l0 : Nat → ByteArray → Int → List ByteArray → Int → Int → Option (List ByteArray)
 | 0, _, _, _, _, _ => none
 | k + 1, x0, x1, x5, x6, x7 => if x7 < (x0.size : Int) then (if 0 ≤ x7 then (if (bt x0 x7) = x1 then (if 0 ≤ x6 then (if x6 ≤ x7 then (if x7 ≤ (x0.size : Int) then (if x5.length < 8796093022208 then (spec_l1Split.l0 k x0 x1 (x5 ++ [x0.extract (x6 : Int).toNat (x7 : Int).toNat]) (wrap64 (x7 + 1)) (wrap64 (x7 + 1))) else (none)) else (none)) else (none)) else (none)) else (spec_l1Split.l0 k x0 x1 x5 x6 (wrap64 (x7 + 1)))) else (none)) else (if 0 ≤ x6 then (if x6 ≤ (x0.size : Int) then (if x5.length < 8796093022208 then (some (x5 ++ [x0.extract (x6 : Int).toNat x0.size])) else (none)) else (none)) else (none))
def spec_l1Split.f (k : Nat) (a0 : ByteArray) (a1 : Int) : Option (List ByteArray) := spec_l1Split.l0 k a0 a1 ([] : List ByteArray) 0 0
set_option maxHeartbeats 8000000 in
set_option maxRecDepth 100000 in
theorem spec_l1Split.calls (k : Nat) (a0 : ByteArray) (a1 : Int) (r : List ByteArray) (w : World) (h : spec_l1Split.f k a0 a1 = some r) :
  Calls Tryz.prog 77 #[.string a0, .int .u8 a1] w fun e w' => ∃ v0_ : Value, e = .returned (v0_) ∧ Kd.R Kd.string 9 w' w.heap.size (fun _ => True) v0_ r ∧ Below w.heap.size w w' := by
 have HB := jb.mk (Below.refl w.heap.size w); have H : (spec_l1Split.l0 k a0 a1 ([] : List ByteArray) 0 0) = some r := h; clear h; have H' := jb.mk H; clear H; go_enter Tryz.func77, Tryz.ntmps77
 go_wp2
 go_loopg [5, 6, 7] k (fun kq v5 v6 v7 w' => ∃ (x5_1 : List ByteArray) (x6_1 : Int) (x7_1 : Int), v6 = .int .i64 x6_1 ∧ v7 = .int .i64 x7_1 ∧ jb (spec_l1Split.l0 kq a0 a1 x5_1 x6_1 x7_1 = some r) ∧ jb (kq ≤ k) ∧ jb (Kd.R Kd.string 9 w' w.heap.size (fun _ => True) v5 x5_1) ∧ jb (Below w.heap.size w w'))
 case atStart => exact ⟨(([] : List ByteArray)), (0), (0), (by first | rfl | (simp; done) | (simp [*]; done)), (by first | rfl | (simp; done) | (simp [*]; done)), H', ⟨Nat.le_refl _⟩, ⟨by first | exact Kd.R_nil _ _ _ _ _ | exact Kd.N_nil _ _ _ _ _ | exact Kd.V_nil _ _ _ _ _ | exact Kd.Q_nil _ _ _ _ _ | exact Kd.S_nil _ _ _ _ _⟩, ⟨by repeat (first | (with_reducible first | exact HB.1 | apply qb | apply qa | apply qc) | exact HB.1)⟩⟩
 case round =>
  clear H'; (try clear p2); obtain ⟨x5_1, x6_1, x7_1, rfl, rfl, HA, HK1, HO_5, HB⟩ := hrel; cases gk with
  | zero => exact absurd HA.1 (by simp [spec_l1Split.l0])
  | succ k1 =>
   have H := HA.1; clear HA; simp only [spec_l1Split.l0] at H
   by_cases c3 : x7_1 < (a0.size : Int)
   ·rw [if_pos c3] at H; have c3b0 : decide (x7_1 < (a0.size : Int)) = true := decide_eq_true c3; clear c3
    by_cases c4 : 0 ≤ x7_1
    ·rw [if_pos c4] at H; have c4b0 : decide (0 ≤ x7_1) = true := decide_eq_true c4; clear c4
     by_cases c6 : (bt a0 x7_1) = a1
     ·rw [if_pos c6] at H; have c6b0 : ((bt a0 x7_1) == a1) = true := beq_iff_eq.mpr c6; have c6b1 : ((bt a0 x7_1) != a1) = false := bne_eq_false_iff_eq.mpr c6; clear c6
      by_cases c7 : 0 ≤ x6_1
      ·rw [if_pos c7] at H; have c7b0 := eq_true c7; have c7b1 : decide (0 ≤ x6_1) = true := decide_eq_true c7; clear c7
       by_cases c8 : x6_1 ≤ x7_1
       ·rw [if_pos c8] at H; have c8b0 := eq_true c8; have c8b1 : decide (x6_1 ≤ x7_1) = true := decide_eq_true c8; clear c8
        by_cases c9 : x7_1 ≤ (a0.size : Int)
        ·rw [if_pos c9] at H; have c9b0 := eq_true c9; have c9b1 : decide (x7_1 ≤ (a0.size : Int)) = true := decide_eq_true c9; clear c9
         by_cases c10 : x5_1.length < 8796093022208
         ·rw [if_pos c10] at H; have LMc10 := jb.mk c10; clear c10; obtain ⟨y470, hy470⟩ : ∃ y_ : List ByteArray, y_ = (x5_1 ++ [a0.extract (x6_1 : Int).toNat (x7_1 : Int).toNat]) := ⟨_, rfl⟩; replace H : (spec_l1Split.l0 k1 a0 a1 y470 (wrap64 (x7_1 + 1)) (wrap64 (x7_1 + 1))) = some r := by first | (rw [hy470]; with_reducible exact H) | (have H2_ := (Option.bind_some _ _).symm.trans H; rw [hy470]; with_reducible exact H2_) | (have H2_ := (Option.bind_some _ _).symm.trans H; with_reducible exact H2_) | with_reducible exact H | (rw [hy470]; exact H) | exact H
          have Ny470 := jb.mk hy470; clear hy470; have H' := jb.mk H; clear H; have p5 : 0 ≤ (x7_1 : Int) := of_decide_eq_true (by first | (with_reducible assumption) | assumption); have q5 : x7_1 < (a0.size : Int) := of_decide_eq_true (by first | (with_reducible assumption) | assumption); have hx5 := bt_at a0 x7_1; replace p5 := eq_true p5; replace q5 := eq_true q5
          go_wp2_with (((with_reducible refine gate_builtin (b := .append) (xs := #[.tmp 19, .tmp 24]) rfl ?_); at_builtin; refine Kd.R_append Kd.string (w0 := w) w.heap.size rfl (.tmp 19) (.tmp 24) 64 9 (.string ⟨#[]⟩) 16 rfl Tryz.underlying64 info9 rfl (by decide) (by omega) u5 x5_1 (a0.extract (x6_1 : Int).toNat (x7_1 : Int).toNat) [.string (a0.extract (x6_1 : Int).toNat (x7_1 : Int).toNat)] (fun _ => True) (fun _ => False) rfl rfl ?aP (fun _ hk => hk.elim) ?aF ?aO ?aB ?aS ?aL ?_; (case aP => exact rfl); (case aB => exact (by repeat (first | (with_reducible first | exact HB.1 | apply qb | apply qa | apply qc) | exact HB.1))); (case aF => exact (fun _ _ => trivial)); (case aO => exact (by (with_reducible repeat (first | apply Kd.ja | apply Kd.qz | apply Kd.R_drew)); exact HO_5.1)); (case aS => exact (ql (by repeat (first | (with_reducible first | exact HB.1 | apply qb | apply qa | apply qc) | exact HB.1)))); (case aL => have := LMc10.out; omega); intro v471 w11 ho hb hg hat; rw [← Ny470.out] at ho; have n0_ := jb.mk (hb); have n1_ := jb.mk (ho); clear HB; clear HO_5; have HB := n0_; have HO472 := n1_; clear n0_ n1_; clear ho hb hg hat))
          go_roundg k1
          case measure => have := HK1.1; omega
          case rel => exact ⟨(y470), (wrap64 (x7_1 + 1)), (wrap64 (x7_1 + 1)), (by first | rfl | (simp; done) | (simp [*]; done)), (by first | rfl | (simp; done) | (simp [*]; done)), H', ⟨by have := HK1.1; omega⟩, ⟨by (with_reducible repeat (first | apply Kd.ja | apply Kd.qz | apply Kd.R_drew)); exact HO472.1⟩, ⟨by repeat (first | (with_reducible first | exact HB.1 | apply qb | apply qa | apply qc) | exact HB.1)⟩⟩
         rw [if_neg c10] at H; exact absurd H (by simp)
        rw [if_neg c9] at H; exact absurd H (by simp)
       rw [if_neg c8] at H; exact absurd H (by simp)
      rw [if_neg c7] at H; exact absurd H (by simp)
     rw [if_neg c6] at H; have c6b0 : ((bt a0 x7_1) == a1) = false := beq_eq_false_iff_ne.mpr c6; have c6b1 : ((bt a0 x7_1) != a1) = true := bne_iff_ne.mpr c6; have H' := jb.mk H; clear H; have p5 : 0 ≤ (x7_1 : Int) := of_decide_eq_true (by first | (with_reducible assumption) | assumption); have q5 : x7_1 < (a0.size : Int) := of_decide_eq_true (by first | (with_reducible assumption) | assumption); have hx5 := bt_at a0 x7_1; replace p5 := eq_true p5; replace q5 := eq_true q5
     go_wp2
     go_roundg k1
     case measure => have := HK1.1; omega
     case rel => exact ⟨(x5_1), (x6_1), (wrap64 (x7_1 + 1)), (by first | rfl | (simp; done) | (simp [*]; done)), (by first | rfl | (simp; done) | (simp [*]; done)), H', ⟨by have := HK1.1; omega⟩, ⟨by (with_reducible repeat (first | apply Kd.ja | apply Kd.qz | apply Kd.R_drew)); exact HO_5.1⟩, ⟨by repeat (first | (with_reducible first | exact HB.1 | apply qb | apply qa | apply qc) | exact HB.1)⟩⟩
    rw [if_neg c4] at H; exact absurd H (by simp)
   rw [if_neg c3] at H; have c3b0 : decide (x7_1 < (a0.size : Int)) = false := decide_eq_false c3; clear c3
   by_cases c12 : 0 ≤ x6_1
   ·rw [if_pos c12] at H; have c12b0 := eq_true c12; have c12b1 : decide (0 ≤ x6_1) = true := decide_eq_true c12; clear c12
    by_cases c13 : x6_1 ≤ (a0.size : Int)
    ·rw [if_pos c13] at H; have c13b0 := eq_true c13; have c13b1 : decide (x6_1 ≤ (a0.size : Int)) = true := decide_eq_true c13; clear c13
     by_cases c14 : x5_1.length < 8796093022208
     ·rw [if_pos c14] at H; have LMc14 := jb.mk c14; clear c14; obtain ⟨y473, hy473⟩ : ∃ y_ : List ByteArray, y_ = (x5_1 ++ [a0.extract (x6_1 : Int).toNat a0.size]) := ⟨_, rfl⟩; replace H : (some y473) = some r := by first | (rw [hy473]; with_reducible exact H) | (have H2_ := (Option.bind_some _ _).symm.trans H; rw [hy473]; with_reducible exact H2_) | (have H2_ := (Option.bind_some _ _).symm.trans H; with_reducible exact H2_) | with_reducible exact H | (rw [hy473]; exact H) | exact H
      have Ny473 := jb.mk hy473; clear hy473; obtain rfl := Option.some.inj H
      go_wp2_with (((with_reducible refine gate_builtin (b := .append) (xs := #[.tmp 28, .tmp 32]) rfl ?_); at_builtin; refine Kd.R_append Kd.string (w0 := w) w.heap.size rfl (.tmp 28) (.tmp 32) 64 9 (.string ⟨#[]⟩) 16 rfl Tryz.underlying64 info9 rfl (by decide) (by omega) u5 x5_1 (a0.extract (x6_1 : Int).toNat a0.size) [.string (a0.extract (x6_1 : Int).toNat a0.size)] (fun _ => True) (fun _ => False) rfl rfl ?aP (fun _ hk => hk.elim) ?aF ?aO ?aB ?aS ?aL ?_; (case aP => exact rfl); (case aB => exact (by repeat (first | (with_reducible first | exact HB.1 | apply qb | apply qa | apply qc) | exact HB.1))); (case aF => exact (fun _ _ => trivial)); (case aO => exact (by (with_reducible repeat (first | apply Kd.ja | apply Kd.qz | apply Kd.R_drew)); exact HO_5.1)); (case aS => exact (ql (by repeat (first | (with_reducible first | exact HB.1 | apply qb | apply qa | apply qc) | exact HB.1)))); (case aL => have := LMc14.out; omega); intro v474 w15 ho hb hg hat; rw [← Ny473.out] at ho; have n0_ := jb.mk (hb); have n1_ := jb.mk (ho); clear HB; clear HO_5; have HB := n0_; have HO475 := n1_; clear n0_ n1_; clear ho hb hg hat))
      go_ret
      exact ⟨_, by first | rfl | (simp [qr, qq] <;> rfl) | (simp [*, qr, qq] <;> rfl), by (with_reducible repeat (first | apply Kd.ja | apply Kd.qz | apply Kd.R_drew)); exact HO475.1, by repeat (first | (with_reducible first | exact HB.1 | apply qb | apply qa | apply qc) | exact HB.1)⟩
     rw [if_neg c14] at H; exact absurd H (by simp)
    rw [if_neg c13] at H; exact absurd H (by simp)
   rw [if_neg c12] at H; exact absurd H (by simp)

/-! ### spec_l1Read: function 91 -/
mutual
def spec_l1Read.j0 : Nat → ByteArray → Bool → Option (Int)
 | 0, _, _ => none
 | k + 1, x0, x18 => if x18 = true then (some (-1)) else (spec_l1Read.l0 k x0 0 0)
def spec_l1Read.l0 : Nat → ByteArray → Int → Int → Option (Int)
 | 0, _, _, _ => none
 | k + 1, x0, x3, x4 => if x4 < (x0.size : Int) then (if 0 ≤ x4 then (if (bt x0 x4) < 48 then (some (-1)) else (if (bt x0 x4) > 57 then (some (-1)) else (spec_l1Read.l0 k x0 (wrap64 ((wrap64 (10 * x3)) + (((bt x0 x4) - 48) % 256))) (wrap64 (x4 + 1))))) else (none)) else (some x3)
end
def spec_l1Read.f (k : Nat) (a0 : ByteArray) : Option (Int) := (spec_l1In.f (a0.size : Int) 1 6).bind fun t476 => (if t476 = true then (if 0 < (a0.size : Int) then (if (bt a0 0) = 48 then (spec_l1Read.j0 k a0 (decide ((a0.size : Int) > 1))) else (spec_l1Read.j0 k a0 false)) else (none)) else (spec_l1Read.j0 k a0 true))
set_option maxHeartbeats 8000000 in
set_option maxRecDepth 100000 in
theorem spec_l1Read.calls (k : Nat) (a0 : ByteArray) (r : Int) (w : World) (h : spec_l1Read.f k a0 = some r) :
  Calls Tryz.prog 91 #[.string a0] w fun e w' => e = .returned (.int .i64 r) ∧ Drawn0 w w' := by
 have H : ((spec_l1In.f (a0.size : Int) 1 6).bind fun t476 => (if t476 = true then (if 0 < (a0.size : Int) then (if (bt a0 0) = 48 then (spec_l1Read.j0 k a0 (decide ((a0.size : Int) > 1))) else (spec_l1Read.j0 k a0 false)) else (none)) else (spec_l1Read.j0 k a0 true))) = some r := h; clear h; have HC2 := jb.mk H; clear H; go_enter Tryz.func91, Tryz.ntmps91
 go_upto_region 1 with (fail)
 go_cut [18] (fun v18 wc => ∃ (kq : Nat) (x18_1 : Bool), v18 = .bool x18_1 ∧ jb (spec_l1Read.j0 kq a0 x18_1 = some r) ∧ jb (kq ≤ k) ∧ Drawn0 w wc)
 case first =>
  have H := HC2.1; clear HC2; replace H := Option.bind_eq_some_iff.mp H; obtain ⟨t476, A30, H⟩ := H
  try dsimp only at H
  have A3 := jb.mk A30; clear A30
  by_cases c4 : t476 = true
  ·subst c4; rw [if_pos rfl] at H
   by_cases c5 : 0 < (a0.size : Int)
   ·rw [if_pos c5] at H; have c5b0 : decide (0 < (a0.size : Int)) = true := decide_eq_true c5; have c5b1 : decide (0 < a0.size) = true := decide_eq_true (by omega); clear c5
    (first | rw [c5b0] | (simp only [i64_w, i32_w]; rw [c5b0]) | skip)
    by_cases c7 : (bt a0 0) = 48
    ·rw [if_pos c7] at H; have c7b0 : ((bt a0 0) == 48) = true := beq_iff_eq.mpr c7; have c7b1 : ((bt a0 0) != 48) = false := bne_eq_false_iff_eq.mpr c7; clear c7; have H' := jb.mk H; clear H
     go_wp2_with (((with_reducible refine qp (f := 63) rfl ?_); refine qy (some 7) rfl rfl Tryz.func63 (by kernel_rfl) rfl #[.int .i64 (a0.size : Int), .int .i64 1, .int .i64 6] rfl (by (try simp only [List.map_toArray, List.map_cons, List.map_nil]); first | done | rfl | (simp only [List.length_drop, List.length_take]; rfl)) ?_; (with_reducible refine (spec_l1In.calls (a0.size : Int) 1 6 true _ A3.1).mono ?_); rintro e w' ⟨rfl, ⟨nd, rfl⟩⟩; refine ⟨_, rfl, ?_⟩; have p6 : 0 ≤ (0 : Int) := (by omega); have q6 : 0 < a0.size := (by have : (0 : Int) < (a0.size : Int) := of_decide_eq_true (by first | (with_reducible assumption) | assumption); omega); have hx6 : ∀ h : 0 < a0.size, ((a0[0]'h).toNat : Int) = bt a0 0 := bt_at a0 0; clear p6; have qi6 : (0 < (a0.size : Int)) = True := eq_true (of_decide_eq_true (by first | (with_reducible assumption) | assumption)); replace q6 := eq_true q6))
     go_meet
     case rel => exact ⟨_, (decide ((a0.size : Int) > 1)), (by first | rfl | (simp; done) | (simp [*]; done)), H', ⟨by first | omega | exact Nat.le_refl _⟩, by repeat (first | exact Drawn0.refl _ | apply Drawn0.step)⟩
    rw [if_neg c7] at H; have c7b0 : ((bt a0 0) == 48) = false := beq_eq_false_iff_ne.mpr c7; have c7b1 : ((bt a0 0) != 48) = true := bne_iff_ne.mpr c7; have H' := jb.mk H; clear H
    go_wp2_with (((with_reducible refine qp (f := 63) rfl ?_); refine qy (some 7) rfl rfl Tryz.func63 (by kernel_rfl) rfl #[.int .i64 (a0.size : Int), .int .i64 1, .int .i64 6] rfl (by (try simp only [List.map_toArray, List.map_cons, List.map_nil]); first | done | rfl | (simp only [List.length_drop, List.length_take]; rfl)) ?_; (with_reducible refine (spec_l1In.calls (a0.size : Int) 1 6 true _ A3.1).mono ?_); rintro e w' ⟨rfl, ⟨nd, rfl⟩⟩; refine ⟨_, rfl, ?_⟩; have p6 : 0 ≤ (0 : Int) := (by omega); have q6 : 0 < a0.size := (by have : (0 : Int) < (a0.size : Int) := of_decide_eq_true (by first | (with_reducible assumption) | assumption); omega); have hx6 : ∀ h : 0 < a0.size, ((a0[0]'h).toNat : Int) = bt a0 0 := bt_at a0 0; clear p6; have qi6 : (0 < (a0.size : Int)) = True := eq_true (of_decide_eq_true (by first | (with_reducible assumption) | assumption)); replace q6 := eq_true q6))
    go_meet
    case rel => exact ⟨_, (false), (by first | rfl | (simp; done) | (simp [*]; done)), H', ⟨by first | omega | exact Nat.le_refl _⟩, by repeat (first | exact Drawn0.refl _ | apply Drawn0.step)⟩
   rw [if_neg c5] at H; exact absurd H (by simp)
  replace c4 := Bool.eq_false_iff.mpr c4; subst c4; rw [if_neg (show ¬ (false = true) by decide)] at H; have H' := jb.mk H; clear H
  go_wp2_with (((with_reducible refine qp (f := 63) rfl ?_); refine qy (some 7) rfl rfl Tryz.func63 (by kernel_rfl) rfl #[.int .i64 (a0.size : Int), .int .i64 1, .int .i64 6] rfl (by (try simp only [List.map_toArray, List.map_cons, List.map_nil]); first | done | rfl | (simp only [List.length_drop, List.length_take]; rfl)) ?_; (with_reducible refine (spec_l1In.calls (a0.size : Int) 1 6 false _ A3.1).mono ?_); rintro e w' ⟨rfl, ⟨nd, rfl⟩⟩; refine ⟨_, rfl, ?_⟩))
  go_meet
  case rel => exact ⟨_, (true), (by first | rfl | (simp; done) | (simp [*]; done)), H', ⟨by first | omega | exact Nat.le_refl _⟩, by repeat (first | exact Drawn0.refl _ | apply Drawn0.step)⟩
 case rest =>
  clear HC2; (try clear p2); (try clear c4); (try clear c5); (try clear c5b0); (try clear c5b1); (try clear c6); (try clear p6); (try clear q6); (try clear hx6); (try clear qi6); (try clear c7); (try clear c7b0); (try clear c7b1); (try clear p6); (try clear q6); obtain ⟨kq, x18_1, rfl, HA, HJ1, ⟨mc1, rfl⟩⟩ := hcut; cases kq with
  | zero => exact absurd HA.1 (by simp [spec_l1Read.j0])
  | succ kj1 =>
   have H := HA.1; clear HA; simp only [spec_l1Read.j0] at H
   by_cases c8 : x18_1 = true
   ·subst c8; rw [if_pos rfl] at H; obtain rfl := Option.some.inj H
    go_wp2
    go_ret
    exact ⟨by first | rfl | (simp; done) | (simp [*]; done), by repeat (first | exact Drawn0.refl _ | apply Drawn0.step)⟩
   replace c8 := Bool.eq_false_iff.mpr c8; subst c8; rw [if_neg (show ¬ (false = true) by decide)] at H; have H' := jb.mk H; clear H
   go_wp2
   go_loopg [3, 4] kj1 (fun kq v3 v4 w' => ∃ (x3_2 : Int) (x4_2 : Int), v3 = .int .i64 x3_2 ∧ v4 = .int .i64 x4_2 ∧ jb (spec_l1Read.l0 kq a0 x3_2 x4_2 = some r) ∧ jb (kq ≤ kj1) ∧ Drawn0 w w')
   case atStart => exact ⟨(0), (0), (by first | rfl | (simp; done) | (simp [*]; done)), (by first | rfl | (simp; done) | (simp [*]; done)), H', ⟨Nat.le_refl _⟩, by repeat (first | exact Drawn0.refl _ | apply Drawn0.step)⟩
   case round =>
    clear H'; (try clear c1); (try clear p2); (try clear c4); (try clear c5); (try clear c5b0); (try clear c5b1); (try clear c6); (try clear p6); (try clear q6); (try clear hx6); (try clear qi6); (try clear c7); (try clear c7b0); (try clear c7b1); (try clear c8); (try clear p2); (try clear p6); (try clear q6); obtain ⟨x3_2, x4_2, rfl, rfl, HA, HK2, ⟨m2, rfl⟩⟩ := hrel; cases gk with
    | zero => exact absurd HA.1 (by simp [spec_l1Read.l0])
    | succ k2 =>
     have H := HA.1; clear HA; simp only [spec_l1Read.l0] at H
     by_cases c9 : x4_2 < (a0.size : Int)
     ·rw [if_pos c9] at H; have c9b0 : decide (x4_2 < (a0.size : Int)) = true := decide_eq_true c9; clear c9
      by_cases c10 : 0 ≤ x4_2
      ·rw [if_pos c10] at H; have c10b0 : decide (0 ≤ x4_2) = true := decide_eq_true c10; clear c10
       by_cases c12 : (bt a0 x4_2) < 48
       ·rw [if_pos c12] at H; have c12b0 : decide ((bt a0 x4_2) < 48) = true := decide_eq_true c12; clear c12; obtain rfl := Option.some.inj H; have p11 : 0 ≤ (x4_2 : Int) := of_decide_eq_true (by first | (with_reducible assumption) | assumption); have q11 : x4_2 < (a0.size : Int) := of_decide_eq_true (by first | (with_reducible assumption) | assumption); have hx11 := bt_at a0 x4_2; replace p11 := eq_true p11; replace q11 := eq_true q11
        go_wp2
        go_ret
        exact ⟨by first | rfl | (simp; done) | (simp [*]; done), by repeat (first | exact Drawn0.refl _ | apply Drawn0.step)⟩
       rw [if_neg c12] at H; have c12b0 : decide ((bt a0 x4_2) < 48) = false := decide_eq_false c12; clear c12
       by_cases c14 : (bt a0 x4_2) > 57
       ·rw [if_pos c14] at H; have c14b0 : decide (57 < (bt a0 x4_2)) = true := decide_eq_true c14; clear c14; obtain rfl := Option.some.inj H; have p11 : 0 ≤ (x4_2 : Int) := of_decide_eq_true (by first | (with_reducible assumption) | assumption); have q11 : x4_2 < (a0.size : Int) := of_decide_eq_true (by first | (with_reducible assumption) | assumption); have hx11 := bt_at a0 x4_2; replace p11 := eq_true p11; replace q11 := eq_true q11; have p13 : 0 ≤ (x4_2 : Int) := of_decide_eq_true (by first | (with_reducible assumption) | assumption); have q13 : x4_2 < (a0.size : Int) := of_decide_eq_true (by first | (with_reducible assumption) | assumption); have hx13 := bt_at a0 x4_2; replace p13 := eq_true p13; replace q13 := eq_true q13
        go_wp2
        go_ret
        exact ⟨by first | rfl | (simp; done) | (simp [*]; done), by repeat (first | exact Drawn0.refl _ | apply Drawn0.step)⟩
       rw [if_neg c14] at H; have c14b0 : decide (57 < (bt a0 x4_2)) = false := decide_eq_false c14; clear c14; have H' := jb.mk H; clear H; have p11 : 0 ≤ (x4_2 : Int) := of_decide_eq_true (by first | (with_reducible assumption) | assumption); have q11 : x4_2 < (a0.size : Int) := of_decide_eq_true (by first | (with_reducible assumption) | assumption); have hx11 := bt_at a0 x4_2; replace p11 := eq_true p11; replace q11 := eq_true q11; have p13 : 0 ≤ (x4_2 : Int) := of_decide_eq_true (by first | (with_reducible assumption) | assumption); have q13 : x4_2 < (a0.size : Int) := of_decide_eq_true (by first | (with_reducible assumption) | assumption); have hx13 := bt_at a0 x4_2; replace p13 := eq_true p13; replace q13 := eq_true q13; have p15 : 0 ≤ (x4_2 : Int) := of_decide_eq_true (by first | (with_reducible assumption) | assumption); have q15 : x4_2 < (a0.size : Int) := of_decide_eq_true (by first | (with_reducible assumption) | assumption); have hx15 := bt_at a0 x4_2; replace p15 := eq_true p15; replace q15 := eq_true q15
       go_wp2
       go_roundg k2
       case measure => have := HJ1.1; have := HK2.1; omega
       case rel => exact ⟨(wrap64 ((wrap64 (10 * x3_2)) + (((bt a0 x4_2) - 48) % 256))), (wrap64 (x4_2 + 1)), (by first | rfl | (simp; done) | (simp [*]; done)), (by first | rfl | (simp; done) | (simp [*]; done)), H', ⟨by have := HJ1.1; have := HK2.1; omega⟩, by repeat (first | exact Drawn0.refl _ | apply Drawn0.step)⟩
      rw [if_neg c10] at H; exact absurd H (by simp)
     rw [if_neg c9] at H; have c9b0 : decide (x4_2 < (a0.size : Int)) = false := decide_eq_false c9; clear c9; obtain rfl := Option.some.inj H
     go_wp2
     go_ret
     exact ⟨by first | rfl | (simp; done) | (simp [*]; done), by repeat (first | exact Drawn0.refl _ | apply Drawn0.step)⟩

end Go.Proofs.YtoideilmkcpilaaGreatDoor.OFnWalkersMeet
