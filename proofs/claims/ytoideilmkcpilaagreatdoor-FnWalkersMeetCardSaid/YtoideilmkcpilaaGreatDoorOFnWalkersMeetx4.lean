/- The law FnWalkersMeet: contracts of functions, written by a program (after the kit's print). -/
import Derived.Test.YtoideilmkcpilaaGreatDoorOFnWalkersMeetx0
import Derived.Test.YtoideilmkcpilaaGreatDoorOFnWalkersMeetx2
namespace Go.Proofs.YtoideilmkcpilaaGreatDoor.OFnWalkersMeet
open Go.RowKit Go.Proofs.YtoideilmkcpilaaGreatDoorW.PrintWords Go.Proofs.YtoideilmkcpilaaGreatDoorW.PrintLast Go.Proofs.YtoideilmkcpilaaGreatDoorW.PrintMore
attribute [local go_sem] max2_int min2_int max_two min_two max_three min_three max_four min_four   -- for this text's walks alone
set_option linter.unusedVariables false
set_option linter.unusedSimpArgs false
open List (setIfInBounds_toArray set_cons_zero set_cons_succ)

/-! ### spec_l1Cur_walkers: function 65 -/
mutual
def spec_l1Cur_walkers.l0 : Nat → List (S25) → Int → List Int → Int → Int → Option ((List (S25)) × Int × Int)
 | 0, _, _, _, _, _ => none
 | k + 1, x3, x4, x1000, x1001, x1002 => if x4 > 0 then ((spec_l1Cur_walker.f x1000 x1001 x1002).bind fun bt209 => (if x3.length < 8796093022208 then (spec_l1Cur_walkers.l0 k (x3 ++ [(⟨bt209.1, bt209.2.1⟩ : S25)]) (wrap64 (x4 - 1)) x1000 bt209.2.2.1 bt209.2.2.2) else (none))) else ((spec_l1Cur_pick.f x1000 x1001 x1002 20).bind fun bt216 => (if bt216.1 = 0 then (some (([] : List (S25)), bt216.2.1, bt216.2.2)) else (if bt216.1 = 1 then (spec_l1Cur_walkers.l1 k x3 x1000 bt216.2.1 bt216.2.2) else (if bt216.1 = 2 then (if 0 < (x3.length : Int) then (if x3.length < 8796093022208 then (some ((x3 ++ [(⟨(je x3 0).f0, (je x3 0).f1⟩ : S25)]), bt216.2.1, bt216.2.2)) else (none)) else (none)) else (if bt216.1 = 3 then (if 0 < (x3.length : Int) then (if x3.length < 8796093022208 then (some ((x3 ++ [(⟨(je x3 0).f0, (je x3 0).f1⟩ : S25)]), bt216.2.1, bt216.2.2)) else (none)) else (none)) else (some (x3, bt216.2.1, bt216.2.2)))))))
def spec_l1Cur_walkers.l1 : Nat → List (S25) → List Int → Int → Int → Option ((List (S25)) × Int × Int)
 | 0, _, _, _, _ => none
 | k + 1, x3, x1000, x1001, x1002 => (spec_l1Cur_pick.f x1000 x1001 x1002 2).bind fun bt219 => (if (x3.length : Int) < (wrap64 (8 + bt219.1)) then ((spec_l1Cur_sureWalker.f x1000 bt219.2.1 bt219.2.2).bind fun bt222 => (if x3.length < 8796093022208 then (spec_l1Cur_walkers.l1 k (x3 ++ [(⟨bt222.1, bt222.2.1⟩ : S25)]) x1000 bt222.2.2.1 bt222.2.2.2) else (none))) else (some (x3, bt219.2.1, bt219.2.2)))
end
def spec_l1Cur_walkers.f (k : Nat) (s0_0 : List Int) (s0_1 : Int) (s0_2 : Int) : Option ((List (S25)) × Int × Int) := (spec_l1Cur_pick.f s0_0 s0_1 s0_2 5).bind fun bt206 => (spec_l1Cur_walkers.l0 k ([] : List (S25)) (wrap64 (1 + bt206.1)) s0_0 bt206.2.1 bt206.2.2)
set_option maxHeartbeats 8000000 in
set_option maxRecDepth 100000 in
theorem spec_l1Cur_walkers.calls (k : Nat) (g : Nat) (s0_0 : List Int) (s0_1 : Int) (s0_2 : Int) (r1 : List (S25)) (r2 : Int) (r3 : Int) (w0 w : World) (hI : jg w0 w g s0_0 s0_1 s0_2) (hB : Below w0.heap.size w0 w) (h : spec_l1Cur_walkers.f k s0_0 s0_1 s0_2 = some (r1, r2, r3)) :
  Calls Tryz.prog 65 #[.pointer (some ⟨g, 0, none⟩)] w fun e w' => ∃ v0_ : Value, e = .returned (v0_) ∧ Kd.R k25 25 w' w.heap.size (fun _ => True) v0_ r1 ∧ jg w0 w' g s0_0 r2 r3 ∧ Below w0.heap.size w0 w' ∧ qj w w' g none := by
 have hu25 := Tryz.underlying25; have HI0 := jb.mk hI; have HK := jb.mk (qj.refl w g none); have HL := jb.mk hB.size; clear hI; have HW0 := jb.mk hB.size; have HB := jb.mk hB; clear hB; have H : ((spec_l1Cur_pick.f s0_0 s0_1 s0_2 5).bind fun bt206 => (spec_l1Cur_walkers.l0 k ([] : List (S25)) (wrap64 (1 + bt206.1)) s0_0 bt206.2.1 bt206.2.2)) = some (r1, r2, r3) := h; clear h; replace H := Option.bind_eq_some_iff.mp H; obtain ⟨⟨t206, t207, t208⟩, A20, H⟩ := H
 try dsimp only at H
 have A2 := jb.mk A20; clear A20; have H' := jb.mk H; clear H; go_enter Tryz.func65, Tryz.ntmps65
 go_wp2_with (first | ((with_reducible refine qp (f := 61) rfl ?_); refine qy (some 6) rfl rfl Tryz.func61 (by kernel_rfl) rfl #[.pointer (some ⟨g, 0, none⟩), .int .i64 5] rfl (by (try simp only [List.map_toArray, List.map_cons, List.map_nil]); first | done | rfl | (simp only [List.length_drop, List.length_take]; rfl)) ?_; (with_reducible refine (spec_l1Cur_pick.calls g s0_0 s0_1 s0_2 5 t206 t207 t208 w0 _ ?side1 ?side2 A2.1).mono ?_); (case side1 => repeat (first | (with_reducible first | exact HI0.1 | apply jg.alloc | apply jg.drewN | apply jg.drew | apply jg.set_1 | apply jg.set_2) | exact HI0.1)); (case side2 => repeat (first | (with_reducible first | exact HB.1 | apply qb | apply qa | apply qc | refine qd ?_ (jg.ge HI0.1)) | exact HB.1)); rintro e w3 ⟨rfl, hi, hb, hk⟩; refine ⟨_, rfl, ?_⟩; have n0_ := jb.mk (qj.trans (by repeat (first | (with_reducible first | exact HK.1 | apply qj.set_ | apply qm | apply qt | apply qo) | exact HK.1)) hk (.inl rfl)); have n1_ := jb.mk (hb); have n2_ := jb.mk (hi); clear HK; clear HB; clear HI0; have HK := n0_; have HB := n1_; have HI0 := n2_; clear n0_ n1_ n2_; (try clear hb); (try clear hb2); (try clear hk); (try clear hi)))
 go_loopg [3, 4] k (fun kq v3 v4 w' => ∃ (x3_1 : List (S25)) (x4_1 : Int) (x1001_1 : Int) (x1002_1 : Int), v4 = .int .i64 x4_1 ∧ jb (spec_l1Cur_walkers.l0 kq x3_1 x4_1 s0_0 x1001_1 x1002_1 = some (r1, r2, r3)) ∧ jb (kq ≤ k) ∧ jb (Kd.R k25 25 w' w.heap.size (fun _ => True) v3 x3_1) ∧ jb (jg w0 w' g s0_0 x1001_1 x1002_1) ∧ jb (qj w w' g none) ∧ jb (Below w0.heap.size w0 w'))
 case atStart => exact ⟨(([] : List (S25))), (wrap64 (1 + t206)), (t207), (t208), (by first | rfl | (simp; done) | (simp [*]; done)), H', ⟨Nat.le_refl _⟩, ⟨by first | exact Kd.R_nil _ _ _ _ _ | exact Kd.N_nil _ _ _ _ _ | exact Kd.V_nil _ _ _ _ _ | exact Kd.Q_nil _ _ _ _ _ | exact Kd.S_nil _ _ _ _ _⟩, ⟨by repeat (first | (with_reducible first | exact HI0.1 | apply jg.alloc | apply jg.drewN | apply jg.drew | apply jg.set_1 | apply jg.set_2) | exact HI0.1)⟩, ⟨by repeat (first | (with_reducible first | exact HK.1 | apply qj.set_ | apply qm | apply qt | apply qo) | exact HK.1)⟩, ⟨by repeat (first | (with_reducible first | exact HB.1 | apply qb | apply qa | apply qc | refine qd ?_ (jg.ge HI0.1)) | exact HB.1)⟩⟩
 case round =>
  clear H'; (try clear p2); obtain ⟨x3_1, x4_1, x1001_1, x1002_1, rfl, HA, HK1, HO_3, HI0, HK, HB⟩ := hrel; cases gk with
  | zero => exact absurd HA.1 (by simp [spec_l1Cur_walkers.l0])
  | succ k1 =>
   have H := HA.1; clear HA; simp only [spec_l1Cur_walkers.l0] at H
   by_cases c4 : x4_1 > 0
   ·rw [if_pos c4] at H; have c4b0 : decide (0 < x4_1) = true := decide_eq_true c4; clear c4; replace H := Option.bind_eq_some_iff.mp H; obtain ⟨⟨t209, t210, t211, t212⟩, A50, H⟩ := H
    try dsimp only at H
    have A5 := jb.mk A50; clear A50
    by_cases c6 : x3_1.length < 8796093022208
    ·rw [if_pos c6] at H; have LMc6 := jb.mk c6; clear c6; obtain ⟨y213, hy213⟩ : ∃ y_ : List (S25), y_ = (x3_1 ++ [(⟨t209, t210⟩ : S25)]) := ⟨_, rfl⟩; replace H : (spec_l1Cur_walkers.l0 k1 y213 (wrap64 (x4_1 - 1)) s0_0 t211 t212) = some (r1, r2, r3) := by first | (rw [hy213]; with_reducible exact H) | (have H2_ := (Option.bind_some _ _).symm.trans H; rw [hy213]; with_reducible exact H2_) | (have H2_ := (Option.bind_some _ _).symm.trans H; with_reducible exact H2_) | with_reducible exact H | (rw [hy213]; exact H) | exact H
     have Ny213 := jb.mk hy213; clear hy213; have H' := jb.mk H; clear H
     go_wp2_with (first | ((with_reducible refine qp (f := 33) rfl ?_); refine qy (some 14) rfl rfl Tryz.func33 (by kernel_rfl) rfl #[.pointer (some ⟨g, 0, none⟩)] rfl (by (try simp only [List.map_toArray, List.map_cons, List.map_nil]); first | done | rfl | (simp only [List.length_drop, List.length_take]; rfl)) ?_; (with_reducible refine (spec_l1Cur_walker.calls g s0_0 x1001_1 x1002_1 t209 t210 t211 t212 w0 _ ?side1 ?side2 A5.1).mono ?_); (case side1 => repeat (first | (with_reducible first | exact HI0.1 | apply jg.alloc | apply jg.drewN | apply jg.drew | apply jg.set_1 | apply jg.set_2) | exact HI0.1)); (case side2 => repeat (first | (with_reducible first | exact HB.1 | apply qb | apply qa | apply qc | refine qd ?_ (jg.ge HI0.1)) | exact HB.1)); rintro e w7 ⟨rfl, hi, hb, hk⟩; refine ⟨_, rfl, ?_⟩; have n0_ := jb.mk (Kd.R_mono (Kd.R_keep (jg.apart (show jg w0 _ g s0_0 x1001_1 x1002_1 from by repeat (first | (with_reducible first | exact HI0.1 | apply jg.alloc | apply jg.drewN | apply jg.drew | apply jg.set_1 | apply jg.set_2) | exact HI0.1)) (by (with_reducible repeat (first | apply Kd.ja | apply Kd.qz | apply Kd.R_drew)); exact HO_3.1) (by decide)) hk (fun _ h => h.2)) (fun _ h => h.1)); have n1_ := jb.mk (qj.trans (by repeat (first | (with_reducible first | exact HK.1 | apply qj.set_ | apply qm | apply qt | apply qo) | exact HK.1)) hk (.inl rfl)); have n2_ := jb.mk (hb); have n3_ := jb.mk (hi); clear HO_3; clear HK; clear HB; clear HI0; have HO_3 := n0_; have HK := n1_; have HB := n2_; have HI0 := n3_; clear n0_ n1_ n2_ n3_; (try clear hb); (try clear hb2); (try clear hk); (try clear hi)) | ((with_reducible refine gate_builtin (b := .append) (xs := #[.tmp 12, .tmp 15]) rfl ?_); at_builtin; refine Kd.R_append k25 w.heap.size rfl (.tmp 12) (.tmp 15) 32 25 (.agg #[(.int .i64 0), (.int .i64 0)]) 16 rfl Tryz.underlying32 info25 rfl (by decide) (by omega) u3 x3_1 (⟨t209, t210⟩ : S25) [.int .i64 t209, .int .i64 t210] (fun _ => True) (fun _ => False) rfl rfl ?aP (fun _ hk => hk.elim) ?aF ?aO (Below.refl _ _) ?aS ?aL ?_; (case aP => exact k25_mkM _ _ _ (⟨t209, t210⟩ : S25)); (case aF => exact (fun _ _ => trivial)); (case aO => exact (by (with_reducible repeat (first | apply Kd.ja | apply Kd.qz | apply Kd.R_drew)); exact HO_3.1)); (case aS => exact (keep_size (w := w) (g := g) (row := none) (by repeat (first | (with_reducible first | exact HK.1 | apply qj.set_ | apply qm | apply qt | apply qo) | exact HK.1)))); (case aL => have := LMc6.out; omega); intro v214 w8 ho hb hg hat; rw [← Ny213.out] at ho; have n0_ := jb.mk (jg.grown (by repeat (first | (with_reducible first | exact HI0.1 | apply jg.alloc | apply jg.drewN | apply jg.drew | apply jg.set_1 | apply jg.set_2) | exact HI0.1)) hg (jg.own_ne HI0.1 HO_3.1 (by decide))); have n1_ := jb.mk (below_weaken (by repeat (first | (with_reducible first | exact HB.1 | apply qb | apply qa | apply qc | refine qd ?_ (jg.ge HI0.1)) | exact HB.1)) HL.1 hb); have n2_ := jb.mk (qj.trans (by repeat (first | (with_reducible first | exact HK.1 | apply qj.set_ | apply qm | apply qt | apply qo) | exact HK.1)) (qj.of_grown hg g) (Kd.R_base2 HO_3.1)); have n3_ := jb.mk (ho); clear HI0; clear HB; clear HK; clear HO_3; have HI0 := n0_; have HB := n1_; have HK := n2_; have HO215 := n3_; clear n0_ n1_ n2_ n3_; clear ho hb hg hat))
     go_roundg k1
     case measure => have := HK1.1; omega
     case rel => exact ⟨(y213), (wrap64 (x4_1 - 1)), (t211), (t212), (by first | rfl | (simp; done) | (simp [*]; done)), H', ⟨by have := HK1.1; omega⟩, ⟨by (with_reducible repeat (first | apply Kd.ja | apply Kd.qz | apply Kd.R_drew)); exact HO215.1⟩, ⟨by repeat (first | (with_reducible first | exact HI0.1 | apply jg.alloc | apply jg.drewN | apply jg.drew | apply jg.set_1 | apply jg.set_2) | exact HI0.1)⟩, ⟨by repeat (first | (with_reducible first | exact HK.1 | apply qj.set_ | apply qm | apply qt | apply qo) | exact HK.1)⟩, ⟨by repeat (first | (with_reducible first | exact HB.1 | apply qb | apply qa | apply qc | refine qd ?_ (jg.ge HI0.1)) | exact HB.1)⟩⟩
    rw [if_neg c6] at H; exact absurd H (by simp)
   rw [if_neg c4] at H; have c4b0 : decide (0 < x4_1) = false := decide_eq_false c4; clear c4; replace H := Option.bind_eq_some_iff.mp H; obtain ⟨⟨t216, t217, t218⟩, A90, H⟩ := H
   try dsimp only at H
   have A9 := jb.mk A90; clear A90
   by_cases c10 : t216 = 0
   ·rw [if_pos c10] at H; have c10b0 : (t216 == 0) = true := beq_iff_eq.mpr c10; have c10b1 : (t216 != 0) = false := bne_eq_false_iff_eq.mpr c10; clear c10; simp only [Option.some.injEq, Prod.mk.injEq] at H; obtain ⟨rfl, rfl, rfl⟩ := H
    go_wp2_with (first | ((with_reducible refine qp (f := 61) rfl ?_); refine qy (some 18) rfl rfl Tryz.func61 (by kernel_rfl) rfl #[.pointer (some ⟨g, 0, none⟩), .int .i64 20] rfl (by (try simp only [List.map_toArray, List.map_cons, List.map_nil]); first | done | rfl | (simp only [List.length_drop, List.length_take]; rfl)) ?_; (with_reducible refine (spec_l1Cur_pick.calls g s0_0 x1001_1 x1002_1 20 t216 t217 t218 w0 _ ?side1 ?side2 A9.1).mono ?_); (case side1 => repeat (first | (with_reducible first | exact HI0.1 | apply jg.alloc | apply jg.drewN | apply jg.drew | apply jg.set_1 | apply jg.set_2) | exact HI0.1)); (case side2 => repeat (first | (with_reducible first | exact HB.1 | apply qb | apply qa | apply qc | refine qd ?_ (jg.ge HI0.1)) | exact HB.1)); rintro e w11 ⟨rfl, hi, hb, hk⟩; refine ⟨_, rfl, ?_⟩; have n0_ := jb.mk (Kd.R_mono (Kd.R_keep (jg.apart (show jg w0 _ g s0_0 x1001_1 x1002_1 from by repeat (first | (with_reducible first | exact HI0.1 | apply jg.alloc | apply jg.drewN | apply jg.drew | apply jg.set_1 | apply jg.set_2) | exact HI0.1)) (by (with_reducible repeat (first | apply Kd.ja | apply Kd.qz | apply Kd.R_drew)); exact HO_3.1) (by decide)) hk (fun _ h => h.2)) (fun _ h => h.1)); have n1_ := jb.mk (qj.trans (by repeat (first | (with_reducible first | exact HK.1 | apply qj.set_ | apply qm | apply qt | apply qo) | exact HK.1)) hk (.inl rfl)); have n2_ := jb.mk (hb); have n3_ := jb.mk (hi); clear HO_3; clear HK; clear HB; clear HI0; have HO_3 := n0_; have HK := n1_; have HB := n2_; have HI0 := n3_; clear n0_ n1_ n2_ n3_; (try clear hb); (try clear hb2); (try clear hk); (try clear hi)))
    go_ret
    exact ⟨_, by first | rfl | (simp [qr, qq] <;> rfl) | (simp [*, qr, qq] <;> rfl), by first | exact Kd.R_nil _ _ _ _ _ | exact Kd.N_nil _ _ _ _ _ | exact Kd.V_nil _ _ _ _ _ | exact Kd.Q_nil _ _ _ _ _ | exact Kd.S_nil _ _ _ _ _, by repeat (first | (with_reducible first | exact HI0.1 | apply jg.alloc | apply jg.drewN | apply jg.drew | apply jg.set_1 | apply jg.set_2) | exact HI0.1), by repeat (first | (with_reducible first | exact HB.1 | apply qb | apply qa | apply qc | refine qd ?_ (jg.ge HI0.1)) | exact HB.1), by repeat (first | (with_reducible first | exact HK.1 | apply qj.set_ | apply qm | apply qt | apply qo) | exact HK.1)⟩
   rw [if_neg c10] at H; have c10b0 : (t216 == 0) = false := beq_eq_false_iff_ne.mpr c10; have c10b1 : (t216 != 0) = true := bne_iff_ne.mpr c10
   by_cases c12 : t216 = 1
   ·rw [if_pos c12] at H; have c12b0 : (t216 == 1) = true := beq_iff_eq.mpr c12; have c12b1 : (t216 != 1) = false := bne_eq_false_iff_eq.mpr c12; clear c12; have H' := jb.mk H; clear H
    go_wp2_with (first | ((with_reducible refine qp (f := 61) rfl ?_); refine qy (some 18) rfl rfl Tryz.func61 (by kernel_rfl) rfl #[.pointer (some ⟨g, 0, none⟩), .int .i64 20] rfl (by (try simp only [List.map_toArray, List.map_cons, List.map_nil]); first | done | rfl | (simp only [List.length_drop, List.length_take]; rfl)) ?_; (with_reducible refine (spec_l1Cur_pick.calls g s0_0 x1001_1 x1002_1 20 t216 t217 t218 w0 _ ?side1 ?side2 A9.1).mono ?_); (case side1 => repeat (first | (with_reducible first | exact HI0.1 | apply jg.alloc | apply jg.drewN | apply jg.drew | apply jg.set_1 | apply jg.set_2) | exact HI0.1)); (case side2 => repeat (first | (with_reducible first | exact HB.1 | apply qb | apply qa | apply qc | refine qd ?_ (jg.ge HI0.1)) | exact HB.1)); rintro e w13 ⟨rfl, hi, hb, hk⟩; refine ⟨_, rfl, ?_⟩; have n0_ := jb.mk (Kd.R_mono (Kd.R_keep (jg.apart (show jg w0 _ g s0_0 x1001_1 x1002_1 from by repeat (first | (with_reducible first | exact HI0.1 | apply jg.alloc | apply jg.drewN | apply jg.drew | apply jg.set_1 | apply jg.set_2) | exact HI0.1)) (by (with_reducible repeat (first | apply Kd.ja | apply Kd.qz | apply Kd.R_drew)); exact HO_3.1) (by decide)) hk (fun _ h => h.2)) (fun _ h => h.1)); have n1_ := jb.mk (qj.trans (by repeat (first | (with_reducible first | exact HK.1 | apply qj.set_ | apply qm | apply qt | apply qo) | exact HK.1)) hk (.inl rfl)); have n2_ := jb.mk (hb); have n3_ := jb.mk (hi); clear HO_3; clear HK; clear HB; clear HI0; have HO_3 := n0_; have HK := n1_; have HB := n2_; have HI0 := n3_; clear n0_ n1_ n2_ n3_; (try clear hb); (try clear hb2); (try clear hk); (try clear hi)))
    go_loopg [3] k1 (fun kq v3 w' => ∃ (x3_2 : List (S25)) (x1001_2 : Int) (x1002_2 : Int), jb (spec_l1Cur_walkers.l1 kq x3_2 s0_0 x1001_2 x1002_2 = some (r1, r2, r3)) ∧ jb (kq ≤ k1) ∧ jb (Kd.R k25 25 w' w.heap.size (fun _ => True) v3 x3_2) ∧ jb (jg w0 w' g s0_0 x1001_2 x1002_2) ∧ jb (qj w w' g none) ∧ jb (Below w0.heap.size w0 w'))
    case atStart => exact ⟨(x3_1), (t217), (t218), H', ⟨Nat.le_refl _⟩, ⟨by (with_reducible repeat (first | apply Kd.ja | apply Kd.qz | apply Kd.R_drew)); exact HO_3.1⟩, ⟨by repeat (first | (with_reducible first | exact HI0.1 | apply jg.alloc | apply jg.drewN | apply jg.drew | apply jg.set_1 | apply jg.set_2) | exact HI0.1)⟩, ⟨by repeat (first | (with_reducible first | exact HK.1 | apply qj.set_ | apply qm | apply qt | apply qo) | exact HK.1)⟩, ⟨by repeat (first | (with_reducible first | exact HB.1 | apply qb | apply qa | apply qc | refine qd ?_ (jg.ge HI0.1)) | exact HB.1)⟩⟩
    case round =>
     clear H'; (try clear c1); (try clear p2); (try clear c3); (try clear c4); (try clear c4b0); (try clear c6); (try clear p6); (try clear c10); (try clear c10b0); (try clear c10b1); (try clear c12); (try clear c12b0); (try clear c12b1); (try clear p2); obtain ⟨x3_2, x1001_2, x1002_2, HA, HK2, HO_3, HI0, HK, HB⟩ := hrel; cases gk with
     | zero => exact absurd HA.1 (by simp [spec_l1Cur_walkers.l1])
     | succ k2 =>
      have H := HA.1; clear HA; simp only [spec_l1Cur_walkers.l1] at H; replace H := Option.bind_eq_some_iff.mp H; obtain ⟨⟨t219, t220, t221⟩, A140, H⟩ := H
      try dsimp only at H
      have A14 := jb.mk A140; clear A140
      by_cases c15 : (x3_2.length : Int) < (wrap64 (8 + t219))
      ·rw [if_pos c15] at H; have c15b0 : decide ((x3_2.length : Int) < (wrap64 (8 + t219))) = true := decide_eq_true c15; clear c15; replace H := Option.bind_eq_some_iff.mp H; obtain ⟨⟨t222, t223, t224, t225⟩, A160, H⟩ := H
       try dsimp only at H
       have A16 := jb.mk A160; clear A160
       by_cases c17 : x3_2.length < 8796093022208
       ·rw [if_pos c17] at H; have LMc17 := jb.mk c17; clear c17; obtain ⟨y226, hy226⟩ : ∃ y_ : List (S25), y_ = (x3_2 ++ [(⟨t222, t223⟩ : S25)]) := ⟨_, rfl⟩; replace H : (spec_l1Cur_walkers.l1 k2 y226 s0_0 t224 t225) = some (r1, r2, r3) := by first | (rw [hy226]; with_reducible exact H) | (have H2_ := (Option.bind_some _ _).symm.trans H; rw [hy226]; with_reducible exact H2_) | (have H2_ := (Option.bind_some _ _).symm.trans H; with_reducible exact H2_) | with_reducible exact H | (rw [hy226]; exact H) | exact H
        have Ny226 := jb.mk hy226; clear hy226; have H' := jb.mk H; clear H; obtain ⟨Ao18, co18, eo18⟩ := Kd.R_slice HO_3.1; subst eo18
        go_wp2_with (first | ((with_reducible refine qp (f := 61) rfl ?_); refine qy (some 26) rfl rfl Tryz.func61 (by kernel_rfl) rfl #[.pointer (some ⟨g, 0, none⟩), .int .i64 2] rfl (by (try simp only [List.map_toArray, List.map_cons, List.map_nil]); first | done | rfl | (simp only [List.length_drop, List.length_take]; rfl)) ?_; (with_reducible refine (spec_l1Cur_pick.calls g s0_0 x1001_2 x1002_2 2 t219 t220 t221 w0 _ ?side1 ?side2 A14.1).mono ?_); (case side1 => repeat (first | (with_reducible first | exact HI0.1 | apply jg.alloc | apply jg.drewN | apply jg.drew | apply jg.set_1 | apply jg.set_2) | exact HI0.1)); (case side2 => repeat (first | (with_reducible first | exact HB.1 | apply qb | apply qa | apply qc | refine qd ?_ (jg.ge HI0.1)) | exact HB.1)); rintro e w19 ⟨rfl, hi, hb, hk⟩; refine ⟨_, rfl, ?_⟩; have n0_ := jb.mk (Kd.R_mono (Kd.R_keep (jg.apart (show jg w0 _ g s0_0 x1001_2 x1002_2 from by repeat (first | (with_reducible first | exact HI0.1 | apply jg.alloc | apply jg.drewN | apply jg.drew | apply jg.set_1 | apply jg.set_2) | exact HI0.1)) (by (with_reducible repeat (first | apply Kd.ja | apply Kd.qz | apply Kd.R_drew)); exact HO_3.1) (by decide)) hk (fun _ h => h.2)) (fun _ h => h.1)); have n1_ := jb.mk (qj.trans (by repeat (first | (with_reducible first | exact HK.1 | apply qj.set_ | apply qm | apply qt | apply qo) | exact HK.1)) hk (.inl rfl)); have n2_ := jb.mk (hb); have n3_ := jb.mk (hi); clear HO_3; clear HK; clear HB; clear HI0; have HO_3 := n0_; have HK := n1_; have HB := n2_; have HI0 := n3_; clear n0_ n1_ n2_ n3_; (try clear hb); (try clear hb2); (try clear hk); (try clear hi)) | ((with_reducible refine qp (f := 52) rfl ?_); refine qy (some 31) rfl rfl Tryz.func52 (by kernel_rfl) rfl #[.pointer (some ⟨g, 0, none⟩)] rfl (by (try simp only [List.map_toArray, List.map_cons, List.map_nil]); first | done | rfl | (simp only [List.length_drop, List.length_take]; rfl)) ?_; (with_reducible refine (spec_l1Cur_sureWalker.calls g s0_0 t220 t221 t222 t223 t224 t225 w0 _ ?side1 ?side2 A16.1).mono ?_); (case side1 => repeat (first | (with_reducible first | exact HI0.1 | apply jg.alloc | apply jg.drewN | apply jg.drew | apply jg.set_1 | apply jg.set_2) | exact HI0.1)); (case side2 => repeat (first | (with_reducible first | exact HB.1 | apply qb | apply qa | apply qc | refine qd ?_ (jg.ge HI0.1)) | exact HB.1)); rintro e w20 ⟨rfl, hi, hb, hk⟩; refine ⟨_, rfl, ?_⟩; have n0_ := jb.mk (Kd.R_mono (Kd.R_keep (jg.apart (show jg w0 _ g s0_0 t220 t221 from by repeat (first | (with_reducible first | exact HI0.1 | apply jg.alloc | apply jg.drewN | apply jg.drew | apply jg.set_1 | apply jg.set_2) | exact HI0.1)) (by (with_reducible repeat (first | apply Kd.ja | apply Kd.qz | apply Kd.R_drew)); exact HO_3.1) (by decide)) hk (fun _ h => h.2)) (fun _ h => h.1)); have n1_ := jb.mk (qj.trans (by repeat (first | (with_reducible first | exact HK.1 | apply qj.set_ | apply qm | apply qt | apply qo) | exact HK.1)) hk (.inl rfl)); have n2_ := jb.mk (hb); have n3_ := jb.mk (hi); clear HO_3; clear HK; clear HB; clear HI0; have HO_3 := n0_; have HK := n1_; have HB := n2_; have HI0 := n3_; clear n0_ n1_ n2_ n3_; (try clear hb); (try clear hb2); (try clear hk); (try clear hi)) | ((with_reducible refine gate_builtin (b := .append) (xs := #[.tmp 29, .tmp 32]) rfl ?_); at_builtin; refine Kd.R_append k25 w.heap.size rfl (.tmp 29) (.tmp 32) 32 25 (.agg #[(.int .i64 0), (.int .i64 0)]) 16 rfl Tryz.underlying32 info25 rfl (by decide) (by omega) (.slice Ao18 x3_2.length co18) x3_2 (⟨t222, t223⟩ : S25) [.int .i64 t222, .int .i64 t223] (fun _ => True) (fun _ => False) rfl rfl ?aP (fun _ hk => hk.elim) ?aF ?aO (Below.refl _ _) ?aS ?aL ?_; (case aP => exact k25_mkM _ _ _ (⟨t222, t223⟩ : S25)); (case aF => exact (fun _ _ => trivial)); (case aO => exact (by (with_reducible repeat (first | apply Kd.ja | apply Kd.qz | apply Kd.R_drew)); exact HO_3.1)); (case aS => exact (keep_size (w := w) (g := g) (row := none) (by repeat (first | (with_reducible first | exact HK.1 | apply qj.set_ | apply qm | apply qt | apply qo) | exact HK.1)))); (case aL => have := LMc17.out; omega); intro v227 w21 ho hb hg hat; rw [← Ny226.out] at ho; have n0_ := jb.mk (jg.grown (by repeat (first | (with_reducible first | exact HI0.1 | apply jg.alloc | apply jg.drewN | apply jg.drew | apply jg.set_1 | apply jg.set_2) | exact HI0.1)) hg (jg.own_ne HI0.1 HO_3.1 (by decide))); have n1_ := jb.mk (below_weaken (by repeat (first | (with_reducible first | exact HB.1 | apply qb | apply qa | apply qc | refine qd ?_ (jg.ge HI0.1)) | exact HB.1)) HL.1 hb); have n2_ := jb.mk (qj.trans (by repeat (first | (with_reducible first | exact HK.1 | apply qj.set_ | apply qm | apply qt | apply qo) | exact HK.1)) (qj.of_grown hg g) (Kd.R_base2 HO_3.1)); have n3_ := jb.mk (ho); clear HI0; clear HB; clear HK; clear HO_3; have HI0 := n0_; have HB := n1_; have HK := n2_; have HO228 := n3_; clear n0_ n1_ n2_ n3_; clear ho hb hg hat))
        go_roundg k2
        case measure => have := HK1.1; have := HK2.1; omega
        case rel => exact ⟨(y226), (t224), (t225), H', ⟨by have := HK1.1; have := HK2.1; omega⟩, ⟨by (with_reducible repeat (first | apply Kd.ja | apply Kd.qz | apply Kd.R_drew)); exact HO228.1⟩, ⟨by repeat (first | (with_reducible first | exact HI0.1 | apply jg.alloc | apply jg.drewN | apply jg.drew | apply jg.set_1 | apply jg.set_2) | exact HI0.1)⟩, ⟨by repeat (first | (with_reducible first | exact HK.1 | apply qj.set_ | apply qm | apply qt | apply qo) | exact HK.1)⟩, ⟨by repeat (first | (with_reducible first | exact HB.1 | apply qb | apply qa | apply qc | refine qd ?_ (jg.ge HI0.1)) | exact HB.1)⟩⟩
       rw [if_neg c17] at H; exact absurd H (by simp)
      rw [if_neg c15] at H; have c15b0 : decide ((x3_2.length : Int) < (wrap64 (8 + t219))) = false := decide_eq_false c15; clear c15; simp only [Option.some.injEq, Prod.mk.injEq] at H; obtain ⟨rfl, rfl, rfl⟩ := H; obtain ⟨Ao22, co22, eo22⟩ := Kd.R_slice HO_3.1; subst eo22
      go_wp2_with (first | ((with_reducible refine qp (f := 61) rfl ?_); refine qy (some 26) rfl rfl Tryz.func61 (by kernel_rfl) rfl #[.pointer (some ⟨g, 0, none⟩), .int .i64 2] rfl (by (try simp only [List.map_toArray, List.map_cons, List.map_nil]); first | done | rfl | (simp only [List.length_drop, List.length_take]; rfl)) ?_; (with_reducible refine (spec_l1Cur_pick.calls g s0_0 x1001_2 x1002_2 2 t219 t220 t221 w0 _ ?side1 ?side2 A14.1).mono ?_); (case side1 => repeat (first | (with_reducible first | exact HI0.1 | apply jg.alloc | apply jg.drewN | apply jg.drew | apply jg.set_1 | apply jg.set_2) | exact HI0.1)); (case side2 => repeat (first | (with_reducible first | exact HB.1 | apply qb | apply qa | apply qc | refine qd ?_ (jg.ge HI0.1)) | exact HB.1)); rintro e w23 ⟨rfl, hi, hb, hk⟩; refine ⟨_, rfl, ?_⟩; have n0_ := jb.mk (Kd.R_mono (Kd.R_keep (jg.apart (show jg w0 _ g s0_0 x1001_2 x1002_2 from by repeat (first | (with_reducible first | exact HI0.1 | apply jg.alloc | apply jg.drewN | apply jg.drew | apply jg.set_1 | apply jg.set_2) | exact HI0.1)) (by (with_reducible repeat (first | apply Kd.ja | apply Kd.qz | apply Kd.R_drew)); exact HO_3.1) (by decide)) hk (fun _ h => h.2)) (fun _ h => h.1)); have n1_ := jb.mk (qj.trans (by repeat (first | (with_reducible first | exact HK.1 | apply qj.set_ | apply qm | apply qt | apply qo) | exact HK.1)) hk (.inl rfl)); have n2_ := jb.mk (hb); have n3_ := jb.mk (hi); clear HO_3; clear HK; clear HB; clear HI0; have HO_3 := n0_; have HK := n1_; have HB := n2_; have HI0 := n3_; clear n0_ n1_ n2_ n3_; (try clear hb); (try clear hb2); (try clear hk); (try clear hi)))
      go_ret
      exact ⟨_, by first | rfl | (simp [qr, qq] <;> rfl) | (simp [*, qr, qq] <;> rfl), by (with_reducible repeat (first | apply Kd.ja | apply Kd.qz | apply Kd.R_drew)); exact HO_3.1, by repeat (first | (with_reducible first | exact HI0.1 | apply jg.alloc | apply jg.drewN | apply jg.drew | apply jg.set_1 | apply jg.set_2) | exact HI0.1), by repeat (first | (with_reducible first | exact HB.1 | apply qb | apply qa | apply qc | refine qd ?_ (jg.ge HI0.1)) | exact HB.1), by repeat (first | (with_reducible first | exact HK.1 | apply qj.set_ | apply qm | apply qt | apply qo) | exact HK.1)⟩
   rw [if_neg c12] at H; have c12b0 : (t216 == 1) = false := beq_eq_false_iff_ne.mpr c12; have c12b1 : (t216 != 1) = true := bne_iff_ne.mpr c12
   by_cases c24 : t216 = 2
   ·rw [if_pos c24] at H; have c24b0 : (t216 == 2) = true := beq_iff_eq.mpr c24; have c24b1 : (t216 != 2) = false := bne_eq_false_iff_eq.mpr c24; clear c24
    by_cases c25 : 0 < (x3_1.length : Int)
    ·rw [if_pos c25] at H; have c25b0 : decide (0 < (x3_1.length : Int)) = true := decide_eq_true c25; have c25b1 : decide (0 < x3_1.length) = true := decide_eq_true (by omega); clear c25
     by_cases c26 : x3_1.length < 8796093022208
     ·rw [if_pos c26] at H; have LMc26 := jb.mk c26; clear c26; obtain ⟨y230, hy230⟩ : ∃ y_ : List (S25), y_ = (x3_1 ++ [(⟨(je x3_1 0).f0, (je x3_1 0).f1⟩ : S25)]) := ⟨_, rfl⟩; replace H : (some (y230, t217, t218)) = some (r1, r2, r3) := by first | (rw [hy230]; with_reducible exact H) | (have H2_ := (Option.bind_some _ _).symm.trans H; rw [hy230]; with_reducible exact H2_) | (have H2_ := (Option.bind_some _ _).symm.trans H; with_reducible exact H2_) | with_reducible exact H | (rw [hy230]; exact H) | exact H
      have Ny230 := jb.mk hy230; clear hy230; simp only [Option.some.injEq, Prod.mk.injEq] at H; obtain ⟨rfl, rfl, rfl⟩ := H
      go_wp2_with (first | ((with_reducible refine qp (f := 61) rfl ?_); refine qy (some 18) rfl rfl Tryz.func61 (by kernel_rfl) rfl #[.pointer (some ⟨g, 0, none⟩), .int .i64 20] rfl (by (try simp only [List.map_toArray, List.map_cons, List.map_nil]); first | done | rfl | (simp only [List.length_drop, List.length_take]; rfl)) ?_; (with_reducible refine (spec_l1Cur_pick.calls g s0_0 x1001_1 x1002_1 20 t216 t217 t218 w0 _ ?side1 ?side2 A9.1).mono ?_); (case side1 => repeat (first | (with_reducible first | exact HI0.1 | apply jg.alloc | apply jg.drewN | apply jg.drew | apply jg.set_1 | apply jg.set_2) | exact HI0.1)); (case side2 => repeat (first | (with_reducible first | exact HB.1 | apply qb | apply qa | apply qc | refine qd ?_ (jg.ge HI0.1)) | exact HB.1)); rintro e w27 ⟨rfl, hi, hb, hk⟩; refine ⟨_, rfl, ?_⟩; have n0_ := jb.mk (Kd.R_mono (Kd.R_keep (jg.apart (show jg w0 _ g s0_0 x1001_1 x1002_1 from by repeat (first | (with_reducible first | exact HI0.1 | apply jg.alloc | apply jg.drewN | apply jg.drew | apply jg.set_1 | apply jg.set_2) | exact HI0.1)) (by (with_reducible repeat (first | apply Kd.ja | apply Kd.qz | apply Kd.R_drew)); exact HO_3.1) (by decide)) hk (fun _ h => h.2)) (fun _ h => h.1)); have n1_ := jb.mk (qj.trans (by repeat (first | (with_reducible first | exact HK.1 | apply qj.set_ | apply qm | apply qt | apply qo) | exact HK.1)) hk (.inl rfl)); have n2_ := jb.mk (hb); have n3_ := jb.mk (hi); clear HO_3; clear HK; clear HB; clear HI0; have HO_3 := n0_; have HK := n1_; have HB := n2_; have HI0 := n3_; clear n0_ n1_ n2_ n3_; (try clear hb); (try clear hb2); (try clear hk); (try clear hi); obtain ⟨Ao28, co28, eo28⟩ := Kd.R_slice HO_3.1; subst eo28; have p229 : 0 ≤ (0 : Int) := (by omega); have q229 : 0 < (x3_1.length : Int) := of_decide_eq_true (by first | (with_reducible assumption) | assumption); obtain ⟨ad229, e229, hx229_0, hx229_1⟩ := at_T25 (Kd.R_reads' HO_3.1).2.2 0 p229 q229; cases e229; have qi229 : (0 < x3_1.length) = True := eq_true (by omega); (try rw [show ((0 : Int)).toNat = 0 from rfl] at hx229_0); (try rw [show 0 * 2 = 0 from rfl] at hx229_0); (try rw [Addr.add_zero'] at hx229_0); (try rw [show ((0 : Int)).toNat = 0 from rfl] at hx229_1); (try rw [show 0 * 2 = 0 from rfl] at hx229_1); (try rw [Addr.add_zero'] at hx229_1); replace p229 := eq_true p229; replace q229 := eq_true q229) | ((with_reducible refine gate_builtin (b := .append) (xs := #[.tmp 37, .tmp 41]) rfl ?_); at_builtin; refine Kd.R_append k25 w.heap.size rfl (.tmp 37) (.tmp 41) 32 25 (.agg #[(.int .i64 0), (.int .i64 0)]) 16 rfl Tryz.underlying32 info25 rfl (by decide) (by omega) (.slice (some ad229) x3_1.length co28) x3_1 (⟨(je x3_1 0).f0, (je x3_1 0).f1⟩ : S25) [.int .i64 ((je x3_1 0).f0), .int .i64 ((je x3_1 0).f1)] (fun _ => True) (fun _ => False) rfl rfl ?aP (fun _ hk => hk.elim) ?aF ?aO (Below.refl _ _) ?aS ?aL ?_; (case aP => exact k25_mkM _ _ _ (⟨(je x3_1 0).f0, (je x3_1 0).f1⟩ : S25)); (case aF => exact (fun _ _ => trivial)); (case aO => exact (by (with_reducible repeat (first | apply Kd.ja | apply Kd.qz | apply Kd.R_drew)); exact HO_3.1)); (case aS => exact (keep_size (w := w) (g := g) (row := none) (by repeat (first | (with_reducible first | exact HK.1 | apply qj.set_ | apply qm | apply qt | apply qo) | exact HK.1)))); (case aL => have := LMc26.out; omega); intro v231 w29 ho hb hg hat; rw [← Ny230.out] at ho; have n0_ := jb.mk (jg.grown (by repeat (first | (with_reducible first | exact HI0.1 | apply jg.alloc | apply jg.drewN | apply jg.drew | apply jg.set_1 | apply jg.set_2) | exact HI0.1)) hg (jg.own_ne HI0.1 HO_3.1 (by decide))); have n1_ := jb.mk (below_weaken (by repeat (first | (with_reducible first | exact HB.1 | apply qb | apply qa | apply qc | refine qd ?_ (jg.ge HI0.1)) | exact HB.1)) HL.1 hb); have n2_ := jb.mk (qj.trans (by repeat (first | (with_reducible first | exact HK.1 | apply qj.set_ | apply qm | apply qt | apply qo) | exact HK.1)) (qj.of_grown hg g) (Kd.R_base2 HO_3.1)); have n3_ := jb.mk (ho); clear HI0; clear HB; clear HK; clear HO_3; have HI0 := n0_; have HB := n1_; have HK := n2_; have HO232 := n3_; clear n0_ n1_ n2_ n3_; clear ho hb hg hat))
      go_ret
      exact ⟨_, by first | rfl | (simp [qr, qq] <;> rfl) | (simp [*, qr, qq] <;> rfl), by (with_reducible repeat (first | apply Kd.ja | apply Kd.qz | apply Kd.R_drew)); exact HO232.1, by repeat (first | (with_reducible first | exact HI0.1 | apply jg.alloc | apply jg.drewN | apply jg.drew | apply jg.set_1 | apply jg.set_2) | exact HI0.1), by repeat (first | (with_reducible first | exact HB.1 | apply qb | apply qa | apply qc | refine qd ?_ (jg.ge HI0.1)) | exact HB.1), by repeat (first | (with_reducible first | exact HK.1 | apply qj.set_ | apply qm | apply qt | apply qo) | exact HK.1)⟩
     rw [if_neg c26] at H; exact absurd H (by simp)
    rw [if_neg c25] at H; exact absurd H (by simp)
   rw [if_neg c24] at H; have c24b0 : (t216 == 2) = false := beq_eq_false_iff_ne.mpr c24; have c24b1 : (t216 != 2) = true := bne_iff_ne.mpr c24
   by_cases c30 : t216 = 3
   ·rw [if_pos c30] at H; have c30b0 : (t216 == 3) = true := beq_iff_eq.mpr c30; have c30b1 : (t216 != 3) = false := bne_eq_false_iff_eq.mpr c30; clear c30
    by_cases c31 : 0 < (x3_1.length : Int)
    ·rw [if_pos c31] at H; have c31b0 : decide (0 < (x3_1.length : Int)) = true := decide_eq_true c31; have c31b1 : decide (0 < x3_1.length) = true := decide_eq_true (by omega); clear c31
     by_cases c32 : x3_1.length < 8796093022208
     ·rw [if_pos c32] at H; have LMc32 := jb.mk c32; clear c32; obtain ⟨y234, hy234⟩ : ∃ y_ : List (S25), y_ = (x3_1 ++ [(⟨(je x3_1 0).f0, (je x3_1 0).f1⟩ : S25)]) := ⟨_, rfl⟩; replace H : (some (y234, t217, t218)) = some (r1, r2, r3) := by first | (rw [hy234]; with_reducible exact H) | (have H2_ := (Option.bind_some _ _).symm.trans H; rw [hy234]; with_reducible exact H2_) | (have H2_ := (Option.bind_some _ _).symm.trans H; with_reducible exact H2_) | with_reducible exact H | (rw [hy234]; exact H) | exact H
      have Ny234 := jb.mk hy234; clear hy234; simp only [Option.some.injEq, Prod.mk.injEq] at H; obtain ⟨rfl, rfl, rfl⟩ := H
      go_wp2_with (first | ((with_reducible refine qp (f := 61) rfl ?_); refine qy (some 18) rfl rfl Tryz.func61 (by kernel_rfl) rfl #[.pointer (some ⟨g, 0, none⟩), .int .i64 20] rfl (by (try simp only [List.map_toArray, List.map_cons, List.map_nil]); first | done | rfl | (simp only [List.length_drop, List.length_take]; rfl)) ?_; (with_reducible refine (spec_l1Cur_pick.calls g s0_0 x1001_1 x1002_1 20 t216 t217 t218 w0 _ ?side1 ?side2 A9.1).mono ?_); (case side1 => repeat (first | (with_reducible first | exact HI0.1 | apply jg.alloc | apply jg.drewN | apply jg.drew | apply jg.set_1 | apply jg.set_2) | exact HI0.1)); (case side2 => repeat (first | (with_reducible first | exact HB.1 | apply qb | apply qa | apply qc | refine qd ?_ (jg.ge HI0.1)) | exact HB.1)); rintro e w33 ⟨rfl, hi, hb, hk⟩; refine ⟨_, rfl, ?_⟩; have n0_ := jb.mk (Kd.R_mono (Kd.R_keep (jg.apart (show jg w0 _ g s0_0 x1001_1 x1002_1 from by repeat (first | (with_reducible first | exact HI0.1 | apply jg.alloc | apply jg.drewN | apply jg.drew | apply jg.set_1 | apply jg.set_2) | exact HI0.1)) (by (with_reducible repeat (first | apply Kd.ja | apply Kd.qz | apply Kd.R_drew)); exact HO_3.1) (by decide)) hk (fun _ h => h.2)) (fun _ h => h.1)); have n1_ := jb.mk (qj.trans (by repeat (first | (with_reducible first | exact HK.1 | apply qj.set_ | apply qm | apply qt | apply qo) | exact HK.1)) hk (.inl rfl)); have n2_ := jb.mk (hb); have n3_ := jb.mk (hi); clear HO_3; clear HK; clear HB; clear HI0; have HO_3 := n0_; have HK := n1_; have HB := n2_; have HI0 := n3_; clear n0_ n1_ n2_ n3_; (try clear hb); (try clear hb2); (try clear hk); (try clear hi); obtain ⟨Ao34, co34, eo34⟩ := Kd.R_slice HO_3.1; subst eo34; have p233 : 0 ≤ (0 : Int) := (by omega); have q233 : 0 < (x3_1.length : Int) := of_decide_eq_true (by first | (with_reducible assumption) | assumption); obtain ⟨ad233, e233, hx233_0, hx233_1⟩ := at_T25 (Kd.R_reads' HO_3.1).2.2 0 p233 q233; cases e233; have qi233 : (0 < x3_1.length) = True := eq_true (by omega); (try rw [show ((0 : Int)).toNat = 0 from rfl] at hx233_0); (try rw [show 0 * 2 = 0 from rfl] at hx233_0); (try rw [Addr.add_zero'] at hx233_0); (try rw [show ((0 : Int)).toNat = 0 from rfl] at hx233_1); (try rw [show 0 * 2 = 0 from rfl] at hx233_1); (try rw [Addr.add_zero'] at hx233_1); replace p233 := eq_true p233; replace q233 := eq_true q233) | ((with_reducible refine gate_builtin (b := .append) (xs := #[.tmp 37, .tmp 41]) rfl ?_); at_builtin; refine Kd.R_append k25 w.heap.size rfl (.tmp 37) (.tmp 41) 32 25 (.agg #[(.int .i64 0), (.int .i64 0)]) 16 rfl Tryz.underlying32 info25 rfl (by decide) (by omega) (.slice (some ad233) x3_1.length co34) x3_1 (⟨(je x3_1 0).f0, (je x3_1 0).f1⟩ : S25) [.int .i64 ((je x3_1 0).f0), .int .i64 ((je x3_1 0).f1)] (fun _ => True) (fun _ => False) rfl rfl ?aP (fun _ hk => hk.elim) ?aF ?aO (Below.refl _ _) ?aS ?aL ?_; (case aP => exact k25_mkM _ _ _ (⟨(je x3_1 0).f0, (je x3_1 0).f1⟩ : S25)); (case aF => exact (fun _ _ => trivial)); (case aO => exact (by (with_reducible repeat (first | apply Kd.ja | apply Kd.qz | apply Kd.R_drew)); exact HO_3.1)); (case aS => exact (keep_size (w := w) (g := g) (row := none) (by repeat (first | (with_reducible first | exact HK.1 | apply qj.set_ | apply qm | apply qt | apply qo) | exact HK.1)))); (case aL => have := LMc32.out; omega); intro v235 w35 ho hb hg hat; rw [← Ny234.out] at ho; have n0_ := jb.mk (jg.grown (by repeat (first | (with_reducible first | exact HI0.1 | apply jg.alloc | apply jg.drewN | apply jg.drew | apply jg.set_1 | apply jg.set_2) | exact HI0.1)) hg (jg.own_ne HI0.1 HO_3.1 (by decide))); have n1_ := jb.mk (below_weaken (by repeat (first | (with_reducible first | exact HB.1 | apply qb | apply qa | apply qc | refine qd ?_ (jg.ge HI0.1)) | exact HB.1)) HL.1 hb); have n2_ := jb.mk (qj.trans (by repeat (first | (with_reducible first | exact HK.1 | apply qj.set_ | apply qm | apply qt | apply qo) | exact HK.1)) (qj.of_grown hg g) (Kd.R_base2 HO_3.1)); have n3_ := jb.mk (ho); clear HI0; clear HB; clear HK; clear HO_3; have HI0 := n0_; have HB := n1_; have HK := n2_; have HO236 := n3_; clear n0_ n1_ n2_ n3_; clear ho hb hg hat))
      go_ret
      exact ⟨_, by first | rfl | (simp [qr, qq] <;> rfl) | (simp [*, qr, qq] <;> rfl), by (with_reducible repeat (first | apply Kd.ja | apply Kd.qz | apply Kd.R_drew)); exact HO236.1, by repeat (first | (with_reducible first | exact HI0.1 | apply jg.alloc | apply jg.drewN | apply jg.drew | apply jg.set_1 | apply jg.set_2) | exact HI0.1), by repeat (first | (with_reducible first | exact HB.1 | apply qb | apply qa | apply qc | refine qd ?_ (jg.ge HI0.1)) | exact HB.1), by repeat (first | (with_reducible first | exact HK.1 | apply qj.set_ | apply qm | apply qt | apply qo) | exact HK.1)⟩
     rw [if_neg c32] at H; exact absurd H (by simp)
    rw [if_neg c31] at H; exact absurd H (by simp)
   rw [if_neg c30] at H; have c30b0 : (t216 == 3) = false := beq_eq_false_iff_ne.mpr c30; have c30b1 : (t216 != 3) = true := bne_iff_ne.mpr c30; simp only [Option.some.injEq, Prod.mk.injEq] at H; obtain ⟨rfl, rfl, rfl⟩ := H
   go_wp2_with (first | ((with_reducible refine qp (f := 61) rfl ?_); refine qy (some 18) rfl rfl Tryz.func61 (by kernel_rfl) rfl #[.pointer (some ⟨g, 0, none⟩), .int .i64 20] rfl (by (try simp only [List.map_toArray, List.map_cons, List.map_nil]); first | done | rfl | (simp only [List.length_drop, List.length_take]; rfl)) ?_; (with_reducible refine (spec_l1Cur_pick.calls g s0_0 x1001_1 x1002_1 20 t216 t217 t218 w0 _ ?side1 ?side2 A9.1).mono ?_); (case side1 => repeat (first | (with_reducible first | exact HI0.1 | apply jg.alloc | apply jg.drewN | apply jg.drew | apply jg.set_1 | apply jg.set_2) | exact HI0.1)); (case side2 => repeat (first | (with_reducible first | exact HB.1 | apply qb | apply qa | apply qc | refine qd ?_ (jg.ge HI0.1)) | exact HB.1)); rintro e w36 ⟨rfl, hi, hb, hk⟩; refine ⟨_, rfl, ?_⟩; have n0_ := jb.mk (Kd.R_mono (Kd.R_keep (jg.apart (show jg w0 _ g s0_0 x1001_1 x1002_1 from by repeat (first | (with_reducible first | exact HI0.1 | apply jg.alloc | apply jg.drewN | apply jg.drew | apply jg.set_1 | apply jg.set_2) | exact HI0.1)) (by (with_reducible repeat (first | apply Kd.ja | apply Kd.qz | apply Kd.R_drew)); exact HO_3.1) (by decide)) hk (fun _ h => h.2)) (fun _ h => h.1)); have n1_ := jb.mk (qj.trans (by repeat (first | (with_reducible first | exact HK.1 | apply qj.set_ | apply qm | apply qt | apply qo) | exact HK.1)) hk (.inl rfl)); have n2_ := jb.mk (hb); have n3_ := jb.mk (hi); clear HO_3; clear HK; clear HB; clear HI0; have HO_3 := n0_; have HK := n1_; have HB := n2_; have HI0 := n3_; clear n0_ n1_ n2_ n3_; (try clear hb); (try clear hb2); (try clear hk); (try clear hi)))
   go_ret
   exact ⟨_, by first | rfl | (simp [qr, qq] <;> rfl) | (simp [*, qr, qq] <;> rfl), by (with_reducible repeat (first | apply Kd.ja | apply Kd.qz | apply Kd.R_drew)); exact HO_3.1, by repeat (first | (with_reducible first | exact HI0.1 | apply jg.alloc | apply jg.drewN | apply jg.drew | apply jg.set_1 | apply jg.set_2) | exact HI0.1), by repeat (first | (with_reducible first | exact HB.1 | apply qb | apply qa | apply qc | refine qd ?_ (jg.ge HI0.1)) | exact HB.1), by repeat (first | (with_reducible first | exact HK.1 | apply qj.set_ | apply qm | apply qt | apply qo) | exact HK.1)⟩

-- NOT PRINTED: function 41 (spec_DrawAreWalkers)

-- NOT PRINTED: function 13 (spec_DrawAllMeetings)

-- NOT PRINTED: function 79 (impl_Walker_79)

-- NOT PRINTED: function 59 (impl_Walker_59)

/-! ### impl_AreWalkers_1: function 60 -/
def impl_AreWalkers_1.f (a0_0 : Int) (a0_1 : Int) : Option (Bool) := (impl_IsWalker.f a0_0 a0_1).bind fun t244 => (some (!t244))
set_option maxHeartbeats 8000000 in
set_option maxRecDepth 100000 in
theorem impl_AreWalkers_1.calls (a0_0 : Int) (a0_1 : Int) (r : Bool) (w : World) (h : impl_AreWalkers_1.f a0_0 a0_1 = some r) :
  Calls Tryz.prog 60 #[.agg #[.int .i64 a0_0, .int .i64 a0_1]] w fun e w' => e = .returned (.bool r) ∧ Below w.heap.size w w' := by
 have hu25 := Tryz.underlying25; have HB := jb.mk (Below.refl w.heap.size w); have H : ((impl_IsWalker.f a0_0 a0_1).bind fun t244 => (some (!t244))) = some r := h; clear h; replace H := Option.bind_eq_some_iff.mp H; obtain ⟨t244, A20, H⟩ := H
 try dsimp only at H
 have A2 := jb.mk A20; clear A20; obtain rfl := Option.some.inj H; go_enter Tryz.func60, Tryz.ntmps60
 go_wp2_with (first | ((with_reducible refine qv (N := 1) rfl ?_); refine qw ?hg (N := 1) ?hd (cs := #[.int .i64 a0_0, .int .i64 a0_1]) (t := 25) ?hr ?_; (case hd => rfl); (case hg => rfl); (case hr => first | (go_simp; done) | (go_simp; rfl)); intro gb243 hg w3 hbox hb; have n0_ := jb.mk (qk (by repeat (first | (with_reducible first | exact HB.1 | apply qb | apply qa | apply qc) | exact HB.1)) hb); have n1_ := jb.mk (hbox); have n2_ := jb.mk ((by rw [hg]; exact (ql (by repeat (first | (with_reducible first | exact HB.1 | apply qb | apply qa | apply qc) | exact HB.1))) : w.heap.size ≤ gb243)); have n3_ := jb.mk ((by rw [hg]; exact (ql (by repeat (first | (with_reducible first | exact HB.1 | apply qb | apply qa | apply qc) | exact HB.1))) : w.heap.size ≤ gb243)); clear HB; have HB := n0_; have BK243 := n1_; have GW243 := n2_; have GE243 := n3_; clear n0_ n1_ n2_ n3_; clear hb hbox hg; have hcz4_0 : w3.cell? ⟨gb243, 0, none⟩ = some (.int .i64 a0_0) := (qh BK243.1 0).trans rfl; have hcz4_1 : w3.cell? ⟨gb243, 1, none⟩ = some (.int .i64 a0_1) := (qh BK243.1 1).trans rfl; have hfz4_0 := qg BK243.1 0; have hfz4_1 := qg BK243.1 1) | ((with_reducible refine qp (f := 10) rfl ?_); refine qy (some 4) rfl rfl Tryz.func10 (by kernel_rfl) rfl #[.agg #[.int .i64 a0_0, .int .i64 a0_1]] rfl (by (try simp only [List.map_toArray, List.map_cons, List.map_nil]); first | done | rfl | (simp only [List.length_drop, List.length_take]; rfl)) ?_; (with_reducible refine (impl_IsWalker.calls a0_0 a0_1 t244 _ A2.1).mono ?_); rintro e w5 ⟨rfl, hb⟩; refine ⟨_, rfl, ?_⟩; have n0_ := jb.mk (qu (g := gb243) (o := .cells #[.int .i64 a0_0, .int .i64 a0_1] 25 (0, 0)) (by (with_reducible repeat (first | refine qf ?_ _ | refine qi ?_ | refine qe ?_ _)); exact BK243.1) hb); have n1_ := jb.mk (qk (by repeat (first | (with_reducible first | exact HB.1 | apply qb | apply qa | apply qc | refine qd ?_ GE243.out) | exact HB.1)) hb); clear BK243; clear HB; have BK243 := n0_; have HB := n1_; clear n0_ n1_; (try clear hb); (try clear hb2); (try clear hk); (try clear hi)))
 go_ret
 exact ⟨by first | rfl | (simp [qr, qq] <;> rfl) | (simp [*, qr, qq] <;> rfl), by repeat (first | (with_reducible first | exact HB.1 | apply qb | apply qa | apply qc | refine qd ?_ GE243.out) | exact HB.1)⟩

/-! ### impl_AreWalkers: function 31 -/

def idxP25 (p : S25 → Bool) : List S25 → Int → Int
 | [], _ => -1
 | x :: xs, i => if p x then i else idxP25 p xs (i + 1)
theorem idxP25_hit (p : S25 → Bool) : ∀ (l : List S25) (i : Int) (k : Nat) (hk : k < l.length), (∀ j, j < k → p (l.getD j z25) = false) → p (l.getD k z25) = true → idxP25 p l i = i + k := by
 intro l
 induction l with
 | nil => intro i k hk; simp at hk
 | cons x xs ih =>
  intro i k hk h0 h1; cases k with
  | zero => simp at h1; simp [idxP25, h1]
  | succ k =>
   have hx := h0 0 (by omega)
   simp at hx
   simp only [idxP25, hx]; rw [if_neg (by simp), ih (i + 1) k (by simpa using hk) (fun j hj => by simpa using h0 (j + 1) (by omega)) (by simpa using h1)]
   omega
theorem idxP25_miss (p : S25 → Bool) : ∀ (l : List S25) (i : Int), (∀ j, j < l.length → p (l.getD j z25) = false) → idxP25 p l i = -1 := by
 intro l
 induction l with
 | nil => intro i h; rfl
 | cons x xs ih =>
  intro i h; have hx := h 0 (by simp)
  simp at hx
  simp only [idxP25, hx]; rw [if_neg (by simp), ih (i + 1) (fun j hj => by simpa using h (j + 1) (by simpa using hj))]
theorem idxP25_iff (p : S25 → Bool) : ∀ (l : List S25) (i : Int), 0 ≤ i → (0 ≤ idxP25 p l i ↔ l.any p = true) := by
 intro l
 induction l with
 | nil => intro i h; simp [idxP25]
 | cons x xs ih =>
  intro i h
  by_cases hx : p x = true
  ·have e : idxP25 p (x :: xs) i = i := by simp [idxP25, hx]
   rw [e]; simp [hx, h]
  have e : idxP25 p (x :: xs) i = idxP25 p xs (i + 1) := by simp [idxP25, hx]
  rw [e, ih (i + 1) (by omega)]; simp [hx]
theorem idxP25_any (p : S25 → Bool) (l : List S25) (i : Int) (h : 0 ≤ i) : decide (0 ≤ idxP25 p l i) = l.any p :=
 Bool.eq_iff_iff.mpr ((decide_eq_true_iff).trans (idxP25_iff p l i h))
set_option maxHeartbeats 8000000 in
set_option maxRecDepth 100000 in
theorem idx25.calls (p : S25 → Bool) (g : Nat) (lb : Array Value) (eg : ∀ args w, (callFunc g args).run Tryz.prog w = .ok (.enter g args) w) (A0 : Option Addr) (c0 : Nat) (l0 : List S25) (w : World) (hr0 : Kd.C k25 w A0 l0.length l0) (hlen : (l0.length : Int) ≤ 9000000000000000000)
  (hp : ∀ (W : World) (x : S25), Below w.heap.size w W → Calls Tryz.prog g (#[.agg #[.int .i64 x.f0, .int .i64 x.f1]] ++ lb) W fun e w' => e = .returned (.bool (p x)) ∧ Below w.heap.size w w') :
  Calls Tryz.prog 79 #[.slice A0 l0.length c0, .func (.func g) #[] lb] w fun e w' => e = .returned (.int .i64 (idxP25 p l0 0)) ∧ Below w.heap.size w w' := by
 have hu25 := Tryz.underlying25; have HR := jb.mk hr0; have HP := jb.mk hp; clear hr0 hp; have HB := jb.mk (Below.refl w.heap.size w); go_enter Tryz.func79, Tryz.ntmps79
 go_wp2
 go_loopg [5, 8] l0.length (fun gg _ s8 wr => ∃ kk : Nat, kk ≤ l0.length ∧ l0.length - kk ≤ gg ∧ s8 = .int .i64 kk ∧ jb (Below w.heap.size w wr) ∧ jb (∀ j, j < kk → p (l0.getD j z25) = false))
 case atStart => exact ⟨0, Nat.zero_le _, by omega, rfl, HB, ⟨fun j hj => absurd hj (Nat.not_lt_zero _)⟩⟩
 case round =>
  clear HB; obtain ⟨kk, hkk, hg, rfl, HB, HA⟩ := hrel
  by_cases hlt : kk < l0.length
  ·have hltz : (kk : Int) < (l0.length : Int) := by omega
   obtain ⟨ad, e0, hx0, hx1⟩ := at_T25 HR.1 (kk : Int) (by omega) hltz; cases e0; simp only [Int.toNat_natCast] at hx0 hx1; replace hx0 := (HB.1.cell (World.block_lt_of_cell? w _ hx0)).trans hx0; replace hx1 := (HB.1.cell (World.block_lt_of_cell? w _ hx1)).trans hx1; have hrd : je l0 (kk : Int) = l0.getD kk z25 := by unfold je; simp
   have hcall := HP.1 wr (je l0 (kk : Int)) HB.1; have HD := jb.mk hrd; clear hrd; generalize je l0 (kk : Int) = y at hx0 hx1 hcall HD; cases hq : p y with
   | true =>
    rw [hq] at hcall; have HQ := jb.mk hq; clear hq
    go_wp2_with (go_at_fn g; refine hcall.mono ?_; rintro e w' ⟨rfl, hb'⟩)
    go_ret
    refine ⟨?_, hb'⟩; rw [idxP25_hit p l0 0 kk hlt HA.1 (by rw [← HD.1]; exact HQ.1)]
    simp
   | false =>
    rw [hq] at hcall; have HQ := jb.mk hq; clear hq
    go_wp2_with (go_at_fn g; refine hcall.mono ?_; rintro e w' ⟨rfl, hb'⟩)
    go_roundg (l0.length - (kk + 1))
    case measure => omega
    case rel =>
     refine ⟨kk + 1, by omega, by omega, by go_num, ⟨hb'⟩, ⟨fun j hj => ?_⟩⟩
     by_cases e : j = kk
     ·subst e; rw [← HD.1]; exact HQ.1
     exact HA.1 j (by omega)
  have hltz : ¬ (kk : Int) < (l0.length : Int) := by omega
  have HK := jb.mk (show kk = l0.length by omega)
  go_wp2
  go_ret
  refine ⟨?_, HB.1⟩; rw [idxP25_miss p l0 0 (fun j hj => HA.1 j (by rw [HK.1]; exact hj))]
  first | done | rfl | (simp; done)
theorem con25.calls (p : S25 → Bool) (g : Nat) (lb : Array Value) (eg : ∀ args w, (callFunc g args).run Tryz.prog w = .ok (.enter g args) w) (A0 : Option Addr) (c0 : Nat) (l0 : List S25) (w : World) (hr0 : Kd.C k25 w A0 l0.length l0) (hlen : (l0.length : Int) ≤ 9000000000000000000)
  (hp : ∀ (W : World) (x : S25), Below w.heap.size w W → Calls Tryz.prog g (#[.agg #[.int .i64 x.f0, .int .i64 x.f1]] ++ lb) W fun e w' => e = .returned (.bool (p x)) ∧ Below w.heap.size w w') :
  Calls Tryz.prog 59 #[.slice A0 l0.length c0, .func (.func g) #[] lb] w fun e w' => e = .returned (.bool (l0.any p)) ∧ Below w.heap.size w w' := by
 have H := idx25.calls p g lb eg A0 c0 l0 w hr0 hlen hp; have hn := idxP25_any p l0 0 (by omega); obtain ⟨r, hr⟩ : ∃ r, idxP25 p l0 0 = r := ⟨_, rfl⟩; obtain ⟨q, hq⟩ : ∃ q, l0.any p = q := ⟨_, rfl⟩; rw [hr] at H hn; rw [hq] at hn ⊢; have HN := jb.mk hn; clear hp hr0 hr hq hn; go_enter Tryz.func59, Tryz.ntmps59
 go_wp2_with (go_at_call 79; refine H.mono ?_; rintro e w' ⟨rfl, hb'⟩)
 go_ret
 exact ⟨by rw [← HN.1]; first | done | rfl | (simp; done), hb'⟩

theorem any_false25 (q : S25 → Bool) (l : List S25) : (!(l.any fun x => !(q x))) = l.all q := by
 induction l with
 | nil => rfl
 | cons x xs ih => simp only [List.any_cons, List.all_cons, Bool.not_or, Bool.not_not, ih]
def impl_AreWalkers.q (x : S25) : Bool := decide (-1000 ≤ x.f0 ∧ x.f0 ≤ 1000 ∧ -100 ≤ x.f1 ∧ x.f1 ≤ 100)
theorem impl_AreWalkers.in (a b c : Int) : impl_within.f a b c = some (decide (b ≤ a ∧ a ≤ c)) := by
 unfold impl_within.f; split <;> simp [*] <;> omega
theorem impl_AreWalkers.cl (a b : Int) : impl_AreWalkers_1.f a b = some (!(impl_AreWalkers.q ⟨a, b⟩)) := by
 unfold impl_AreWalkers_1.f impl_IsWalker.f impl_AreWalkers.q; simp only [impl_AreWalkers.in, Option.bind_some]
 by_cases h : -1000 ≤ a ∧ a ≤ 1000 <;> by_cases h' : -100 ≤ b ∧ b ≤ 100 <;> simp [h, h'] <;> omega
def impl_AreWalkers.f (l0 : List S25) : Option Bool := if (l0.length : Int) ≤ 9000000000000000000 then some (decide (1 ≤ (l0.length : Int) ∧ (l0.length : Int) ≤ 8) && l0.all impl_AreWalkers.q) else none
set_option maxHeartbeats 8000000 in
set_option maxRecDepth 100000 in
theorem impl_AreWalkers.calls (A0 : Option Addr) (c0 : Nat) (l0 : List (S25)) (r : Bool) (w : World) (hr0 : Kd.C k25 w A0 l0.length l0) (hc0 : l0.length ≤ c0) (h : impl_AreWalkers.f l0 = some r) :
  Calls Tryz.prog 31 #[.slice A0 l0.length c0] w fun e w' => e = .returned (.bool r) ∧ Below w.heap.size w w' := by
 unfold impl_AreWalkers.f at h
 by_cases hlen : (l0.length : Int) ≤ 9000000000000000000
 ·rw [if_pos hlen] at h; obtain rfl := Option.some.inj h; clear h; have eg : ∀ args w, (callFunc 60 args).run Tryz.prog w = .ok (.enter 60 args) w := enters_of Tryz.func60 (by kernel_rfl) rfl; have hcon : ∀ w1 : World, Below w.heap.size w w1 → Calls Tryz.prog 59 #[.slice A0 l0.length c0, .func (.func 60) #[] #[]] w1 fun e w' => e = .returned (.bool (l0.any fun x => !(impl_AreWalkers.q x))) ∧ Below w.heap.size w w' := fun w1 hb1 =>
   (con25.calls (fun x => !(impl_AreWalkers.q x)) 60 #[] eg A0 c0 l0 w1 (Kd.C_below hr0 hb1) hlen (fun W x hW => (impl_AreWalkers_1.calls x.f0 x.f1 _ W (impl_AreWalkers.cl x.f0 x.f1)).mono fun e w' ⟨he, hb⟩ => ⟨he, hW.trans (hb.mono hW.size)⟩)).mono fun e w' ⟨he, hb⟩ => ⟨he, hb1.trans (hb.mono hb1.size)⟩
  rw [← any_false25]; obtain ⟨q, hq⟩ : ∃ q, (l0.any fun x => !(impl_AreWalkers.q x)) = q := ⟨_, rfl⟩; rw [hq] at hcon ⊢; clear hq; have HC := jb.mk hcon; have hwi := impl_AreWalkers.in (l0.length : Int) 1 8; clear hcon eg hr0
  by_cases hin : 1 ≤ (l0.length : Int) ∧ (l0.length : Int) ≤ 8
  ·rw [decide_eq_true hin] at hwi ⊢; have HW := jb.mk hwi; have HI := jb.mk hin; clear hwi hin; go_enter Tryz.func31, Tryz.ntmps31
   go_wp2_with (first | (go_at_call 40; refine (impl_within.calls _ _ _ _ _ HW.1).mono ?_; rintro e w' ⟨rfl, ⟨nd, rfl⟩⟩) | (go_at_call 59; refine (HC.1 _ (by repeat (first | (with_reducible first | exact Below.refl _ _ | apply qb | apply qa | apply qc)))).mono ?_; rintro e w' ⟨rfl, hb'⟩))
   go_ret
   exact ⟨by simp, hb'⟩
  rw [decide_eq_false hin] at hwi ⊢; have HW := jb.mk hwi; have HI := jb.mk hin; clear hwi hin; go_enter Tryz.func31, Tryz.ntmps31
  go_wp2_with (first | (go_at_call 40; refine (impl_within.calls _ _ _ _ _ HW.1).mono ?_; rintro e w' ⟨rfl, ⟨nd, rfl⟩⟩))
  go_ret
  exact ⟨by simp, by repeat (first | (with_reducible first | exact Below.refl _ _ | apply qb | apply qa | apply qc))⟩
 rw [if_neg hlen] at h; exact absurd h (by simp)

-- NOT PRINTED: function 92 (slices_insertionSortCmpFunc_int)

-- NOT PRINTED: function 118 (slices_swapRangeCmpFunc_int)

-- NOT PRINTED: function 103 (slices_rotateCmpFunc_int)

-- NOT PRINTED: function 93 (slices_symMergeCmpFunc_int)

-- NOT PRINTED: function 81 (slices_stableCmpFunc_int)

-- NOT PRINTED: function 66 (slices_SortStableFunc_int_int)

/-! ### cmp_isNaN_int: function 82 -/
def cmp_isNaN_int.f (a0 : Int) : Option (Bool) := some (a0 != a0)
set_option maxHeartbeats 8000000 in
set_option maxRecDepth 100000 in
theorem cmp_isNaN_int.calls (a0 : Int) (r : Bool) (w : World) (h : cmp_isNaN_int.f a0 = some r) :
  Calls Tryz.prog 82 #[.int .i64 a0] w fun e w' => e = .returned (.bool r) ∧ Drawn0 w w' := by
 have H : (some (a0 != a0)) = some r := h; clear h; obtain rfl := Option.some.inj H; go_enter Tryz.func82, Tryz.ntmps82
 go_wp2
 go_ret
 exact ⟨by first | rfl | (simp; done) | (simp [*]; done), by repeat (first | exact Drawn0.refl _ | apply Drawn0.step)⟩

/-! ### cmp_Compare_int: function 68 -/
def cmp_Compare_int.f (a0 : Int) (a1 : Int) : Option (Int) := (cmp_isNaN_int.f a0).bind fun t245 => ((cmp_isNaN_int.f a1).bind fun t246 => (if t245 = true then (if t246 = true then (some 0) else (some (-1))) else (if t246 = true then (some 1) else (if a0 < a1 then (some (-1)) else (if a0 > a1 then (some 1) else (some 0))))))
set_option maxHeartbeats 8000000 in
set_option maxRecDepth 100000 in
theorem cmp_Compare_int.calls (a0 : Int) (a1 : Int) (r : Int) (w : World) (h : cmp_Compare_int.f a0 a1 = some r) :
  Calls Tryz.prog 68 #[.int .i64 a0, .int .i64 a1] w fun e w' => e = .returned (.int .i64 r) ∧ Drawn0 w w' := by
 have H : ((cmp_isNaN_int.f a0).bind fun t245 => ((cmp_isNaN_int.f a1).bind fun t246 => (if t245 = true then (if t246 = true then (some 0) else (some (-1))) else (if t246 = true then (some 1) else (if a0 < a1 then (some (-1)) else (if a0 > a1 then (some 1) else (some 0))))))) = some r := h; clear h; replace H := Option.bind_eq_some_iff.mp H; obtain ⟨t245, A30, H⟩ := H
 try dsimp only at H
 have A3 := jb.mk A30; clear A30; replace H := Option.bind_eq_some_iff.mp H; obtain ⟨t246, A40, H⟩ := H
 try dsimp only at H
 have A4 := jb.mk A40; clear A40
 by_cases c5 : t245 = true
 ·subst c5; rw [if_pos rfl] at H
  by_cases c6 : t246 = true
  ·subst c6; rw [if_pos rfl] at H; obtain rfl := Option.some.inj H; go_enter Tryz.func68, Tryz.ntmps68
   go_wp2_with (first | ((with_reducible refine qp (f := 82) rfl ?_); refine qy (some 8) rfl rfl Tryz.func82 (by kernel_rfl) rfl #[.int .i64 a0] rfl (by (try simp only [List.map_toArray, List.map_cons, List.map_nil]); first | done | rfl | (simp only [List.length_drop, List.length_take]; rfl)) ?_; (with_reducible refine (cmp_isNaN_int.calls a0 true _ A3.1).mono ?_); rintro e w' ⟨rfl, ⟨nd, rfl⟩⟩; refine ⟨_, rfl, ?_⟩) | ((with_reducible refine qp (f := 82) rfl ?_); refine qy (some 10) rfl rfl Tryz.func82 (by kernel_rfl) rfl #[.int .i64 a1] rfl (by (try simp only [List.map_toArray, List.map_cons, List.map_nil]); first | done | rfl | (simp only [List.length_drop, List.length_take]; rfl)) ?_; (with_reducible refine (cmp_isNaN_int.calls a1 true _ A4.1).mono ?_); rintro e w' ⟨rfl, ⟨nd, rfl⟩⟩; refine ⟨_, rfl, ?_⟩))
   go_ret
   exact ⟨by first | rfl | (simp; done) | (simp [*]; done), by repeat (first | exact Drawn0.refl _ | apply Drawn0.step)⟩
  replace c6 := Bool.eq_false_iff.mpr c6; subst c6; rw [if_neg (show ¬ (false = true) by decide)] at H; obtain rfl := Option.some.inj H; go_enter Tryz.func68, Tryz.ntmps68
  go_wp2_with (first | ((with_reducible refine qp (f := 82) rfl ?_); refine qy (some 8) rfl rfl Tryz.func82 (by kernel_rfl) rfl #[.int .i64 a0] rfl (by (try simp only [List.map_toArray, List.map_cons, List.map_nil]); first | done | rfl | (simp only [List.length_drop, List.length_take]; rfl)) ?_; (with_reducible refine (cmp_isNaN_int.calls a0 true _ A3.1).mono ?_); rintro e w' ⟨rfl, ⟨nd, rfl⟩⟩; refine ⟨_, rfl, ?_⟩) | ((with_reducible refine qp (f := 82) rfl ?_); refine qy (some 10) rfl rfl Tryz.func82 (by kernel_rfl) rfl #[.int .i64 a1] rfl (by (try simp only [List.map_toArray, List.map_cons, List.map_nil]); first | done | rfl | (simp only [List.length_drop, List.length_take]; rfl)) ?_; (with_reducible refine (cmp_isNaN_int.calls a1 false _ A4.1).mono ?_); rintro e w' ⟨rfl, ⟨nd, rfl⟩⟩; refine ⟨_, rfl, ?_⟩))
  go_ret
  exact ⟨by first | rfl | (simp; done) | (simp [*]; done), by repeat (first | exact Drawn0.refl _ | apply Drawn0.step)⟩
 replace c5 := Bool.eq_false_iff.mpr c5; subst c5; rw [if_neg (show ¬ (false = true) by decide)] at H
 by_cases c7 : t246 = true
 ·subst c7; rw [if_pos rfl] at H; obtain rfl := Option.some.inj H; go_enter Tryz.func68, Tryz.ntmps68
  go_wp2_with (first | ((with_reducible refine qp (f := 82) rfl ?_); refine qy (some 8) rfl rfl Tryz.func82 (by kernel_rfl) rfl #[.int .i64 a0] rfl (by (try simp only [List.map_toArray, List.map_cons, List.map_nil]); first | done | rfl | (simp only [List.length_drop, List.length_take]; rfl)) ?_; (with_reducible refine (cmp_isNaN_int.calls a0 false _ A3.1).mono ?_); rintro e w' ⟨rfl, ⟨nd, rfl⟩⟩; refine ⟨_, rfl, ?_⟩) | ((with_reducible refine qp (f := 82) rfl ?_); refine qy (some 10) rfl rfl Tryz.func82 (by kernel_rfl) rfl #[.int .i64 a1] rfl (by (try simp only [List.map_toArray, List.map_cons, List.map_nil]); first | done | rfl | (simp only [List.length_drop, List.length_take]; rfl)) ?_; (with_reducible refine (cmp_isNaN_int.calls a1 true _ A4.1).mono ?_); rintro e w' ⟨rfl, ⟨nd, rfl⟩⟩; refine ⟨_, rfl, ?_⟩))
  go_ret
  exact ⟨by first | rfl | (simp; done) | (simp [*]; done), by repeat (first | exact Drawn0.refl _ | apply Drawn0.step)⟩
 replace c7 := Bool.eq_false_iff.mpr c7; subst c7; rw [if_neg (show ¬ (false = true) by decide)] at H
 by_cases c8 : a0 < a1
 ·rw [if_pos c8] at H; have c8b0 : decide (a0 < a1) = true := decide_eq_true c8; clear c8; obtain rfl := Option.some.inj H; go_enter Tryz.func68, Tryz.ntmps68
  go_wp2_with (first | ((with_reducible refine qp (f := 82) rfl ?_); refine qy (some 8) rfl rfl Tryz.func82 (by kernel_rfl) rfl #[.int .i64 a0] rfl (by (try simp only [List.map_toArray, List.map_cons, List.map_nil]); first | done | rfl | (simp only [List.length_drop, List.length_take]; rfl)) ?_; (with_reducible refine (cmp_isNaN_int.calls a0 false _ A3.1).mono ?_); rintro e w' ⟨rfl, ⟨nd, rfl⟩⟩; refine ⟨_, rfl, ?_⟩) | ((with_reducible refine qp (f := 82) rfl ?_); refine qy (some 10) rfl rfl Tryz.func82 (by kernel_rfl) rfl #[.int .i64 a1] rfl (by (try simp only [List.map_toArray, List.map_cons, List.map_nil]); first | done | rfl | (simp only [List.length_drop, List.length_take]; rfl)) ?_; (with_reducible refine (cmp_isNaN_int.calls a1 false _ A4.1).mono ?_); rintro e w' ⟨rfl, ⟨nd, rfl⟩⟩; refine ⟨_, rfl, ?_⟩))
  go_ret
  exact ⟨by first | rfl | (simp; done) | (simp [*]; done), by repeat (first | exact Drawn0.refl _ | apply Drawn0.step)⟩
 rw [if_neg c8] at H; have c8b0 : decide (a0 < a1) = false := decide_eq_false c8; clear c8
 by_cases c9 : a0 > a1
 ·rw [if_pos c9] at H; have c9b0 : decide (a1 < a0) = true := decide_eq_true c9; clear c9; obtain rfl := Option.some.inj H; go_enter Tryz.func68, Tryz.ntmps68
  go_wp2_with (first | ((with_reducible refine qp (f := 82) rfl ?_); refine qy (some 8) rfl rfl Tryz.func82 (by kernel_rfl) rfl #[.int .i64 a0] rfl (by (try simp only [List.map_toArray, List.map_cons, List.map_nil]); first | done | rfl | (simp only [List.length_drop, List.length_take]; rfl)) ?_; (with_reducible refine (cmp_isNaN_int.calls a0 false _ A3.1).mono ?_); rintro e w' ⟨rfl, ⟨nd, rfl⟩⟩; refine ⟨_, rfl, ?_⟩) | ((with_reducible refine qp (f := 82) rfl ?_); refine qy (some 10) rfl rfl Tryz.func82 (by kernel_rfl) rfl #[.int .i64 a1] rfl (by (try simp only [List.map_toArray, List.map_cons, List.map_nil]); first | done | rfl | (simp only [List.length_drop, List.length_take]; rfl)) ?_; (with_reducible refine (cmp_isNaN_int.calls a1 false _ A4.1).mono ?_); rintro e w' ⟨rfl, ⟨nd, rfl⟩⟩; refine ⟨_, rfl, ?_⟩))
  go_ret
  exact ⟨by first | rfl | (simp; done) | (simp [*]; done), by repeat (first | exact Drawn0.refl _ | apply Drawn0.step)⟩
 rw [if_neg c9] at H; have c9b0 : decide (a1 < a0) = false := decide_eq_false c9; clear c9; obtain rfl := Option.some.inj H; go_enter Tryz.func68, Tryz.ntmps68
 go_wp2_with (first | ((with_reducible refine qp (f := 82) rfl ?_); refine qy (some 8) rfl rfl Tryz.func82 (by kernel_rfl) rfl #[.int .i64 a0] rfl (by (try simp only [List.map_toArray, List.map_cons, List.map_nil]); first | done | rfl | (simp only [List.length_drop, List.length_take]; rfl)) ?_; (with_reducible refine (cmp_isNaN_int.calls a0 false _ A3.1).mono ?_); rintro e w' ⟨rfl, ⟨nd, rfl⟩⟩; refine ⟨_, rfl, ?_⟩) | ((with_reducible refine qp (f := 82) rfl ?_); refine qy (some 10) rfl rfl Tryz.func82 (by kernel_rfl) rfl #[.int .i64 a1] rfl (by (try simp only [List.map_toArray, List.map_cons, List.map_nil]); first | done | rfl | (simp only [List.length_drop, List.length_take]; rfl)) ?_; (with_reducible refine (cmp_isNaN_int.calls a1 false _ A4.1).mono ?_); rintro e w' ⟨rfl, ⟨nd, rfl⟩⟩; refine ⟨_, rfl, ?_⟩))
 go_ret
 exact ⟨by first | rfl | (simp; done) | (simp [*]; done), by repeat (first | exact Drawn0.refl _ | apply Drawn0.step)⟩

end Go.Proofs.YtoideilmkcpilaaGreatDoor.OFnWalkersMeet
