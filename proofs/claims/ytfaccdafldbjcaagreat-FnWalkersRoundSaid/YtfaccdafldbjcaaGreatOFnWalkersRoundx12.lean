/- The law FnWalkersRound: contracts of functions, written by a program (after the kit's print). -/
import Derived.Test.YtfaccdafldbjcaaGreatOFnWalkersRoundx0
import Derived.Test.YtfaccdafldbjcaaGreatOFnWalkersRoundx1
import Derived.Test.YtfaccdafldbjcaaGreatOFnWalkersRoundx6
import Derived.Test.YtfaccdafldbjcaaGreatOFnWalkersRoundx7
import Derived.Test.YtfaccdafldbjcaaGreatOFnWalkersRoundx8
namespace Go.Proofs.YtfaccdafldbjcaaGreat.OFnWalkersRound
open Go.RowKit Go.Proofs.YtfaccdafldbjcaaGreatW.PrintWords Go.Proofs.YtfaccdafldbjcaaGreatW.PrintLast Go.Proofs.YtfaccdafldbjcaaGreatW.PrintMore
attribute [local go_sem] max2_int min2_int max_two min_two max_three min_three max_four min_four   -- for this text's walks alone
set_option linter.unusedVariables false
set_option linter.unusedSimpArgs false
open List (setIfInBounds_toArray set_cons_zero set_cons_succ)

/-! ### cmp_Or_int: function 62 -/
def cmp_Or_int.l0 : Nat → Int → List Int → Int → Int → Option (Int)
 | 0, _, _, _, _ => none
 | k + 1, x3, x6, x7, x8 => if x8 < x7 then (if 0 ≤ x8 then (if x8 < (x6.length : Int) then (if (rd x6 x8) = x3 then (cmp_Or_int.l0 k x3 x6 x7 (wrap64 (x8 + 1))) else (some (rd x6 x8))) else (none)) else (none)) else (some x3)
def cmp_Or_int.f (k : Nat) (l0 : List Int) : Option (Int) := cmp_Or_int.l0 k 0 l0 (l0.length : Int) 0
set_option maxHeartbeats 8000000 in
set_option maxRecDepth 100000 in
theorem cmp_Or_int.calls (k : Nat) (A0 : Option Addr) (c0 : Nat) (l0 : List Int) (r : Int) (w : World) (hr0 : Kd.C (Kd.int .i64) w A0 l0.length l0) (hc0 : l0.length ≤ c0) (h : cmp_Or_int.f k l0 = some r) :
  Calls Tryz.prog 62 #[.slice A0 l0.length c0] w fun e w' => e = .returned (.int .i64 r) ∧ Drawn0 w w' := by
 have HR0 := jb.mk hr0; have HC0 := jb.mk hc0; clear hr0 hc0; have H : (cmp_Or_int.l0 k 0 l0 (l0.length : Int) 0) = some r := h; clear h; have H' := jb.mk H; clear H; go_enter Tryz.func62, Tryz.ntmps62
 go_wp2
 go_loopg [8] k (fun kq v8 w' => ∃ (x8_1 : Int), v8 = .int .i64 x8_1 ∧ jb (cmp_Or_int.l0 kq 0 l0 (l0.length : Int) x8_1 = some r) ∧ jb (kq ≤ k) ∧ Drawn0 w w')
 case atStart => exact ⟨(0), (by first | rfl | (simp; done) | (simp [*]; done)), H', ⟨Nat.le_refl _⟩, by repeat (first | exact Drawn0.refl _ | apply Drawn0.step)⟩
 case round =>
  clear H'; obtain ⟨x8_1, rfl, HA, HK1, ⟨m1, rfl⟩⟩ := hrel; cases gk with
  | zero => exact absurd HA.1 (by simp [cmp_Or_int.l0])
  | succ k1 =>
   have H := HA.1; clear HA; simp only [cmp_Or_int.l0] at H
   by_cases c2 : x8_1 < (l0.length : Int)
   ·rw [if_pos c2] at H; have c2b0 : decide (x8_1 < (l0.length : Int)) = true := decide_eq_true c2; clear c2
    by_cases c3 : 0 ≤ x8_1
    ·rw [if_pos c3] at H; have c3b0 : decide (0 ≤ x8_1) = true := decide_eq_true c3; clear c3
     by_cases c4 : x8_1 < (l0.length : Int)
     ·rw [if_pos c4] at H; have c4b0 : decide (x8_1 < (l0.length : Int)) = true := decide_eq_true c4; clear c4
      by_cases c5 : (rd l0 x8_1) = 0
      ·rw [if_pos c5] at H; have c5b0 : ((rd l0 x8_1) == 0) = true := beq_iff_eq.mpr c5; have c5b1 : ((rd l0 x8_1) != 0) = false := bne_eq_false_iff_eq.mpr c5; clear c5; have H' := jb.mk H; clear H; have p532 : 0 ≤ (x8_1 : Int) := of_decide_eq_true (by first | (with_reducible assumption) | assumption); have q532 : x8_1 < (l0.length : Int) := of_decide_eq_true (by first | (with_reducible assumption) | assumption); obtain ⟨ad532, e532, hx532_0⟩ := Kd.at_int HR0.1 x8_1 p532 q532; cases e532; replace p532 := eq_true p532; replace q532 := eq_true q532
       go_wp2
       go_roundg k1
       case measure => have := HK1.1; omega
       case rel => exact ⟨(wrap64 (x8_1 + 1)), (by first | rfl | (simp; done) | (simp [*]; done)), H', ⟨by have := HK1.1; omega⟩, by repeat (first | exact Drawn0.refl _ | apply Drawn0.step)⟩
      rw [if_neg c5] at H; have c5b0 : ((rd l0 x8_1) == 0) = false := beq_eq_false_iff_ne.mpr c5; have c5b1 : ((rd l0 x8_1) != 0) = true := bne_iff_ne.mpr c5; obtain rfl := Option.some.inj H; have p532 : 0 ≤ (x8_1 : Int) := of_decide_eq_true (by first | (with_reducible assumption) | assumption); have q532 : x8_1 < (l0.length : Int) := of_decide_eq_true (by first | (with_reducible assumption) | assumption); obtain ⟨ad532, e532, hx532_0⟩ := Kd.at_int HR0.1 x8_1 p532 q532; cases e532; replace p532 := eq_true p532; replace q532 := eq_true q532
      go_wp2
      go_ret
      exact ⟨by first | rfl | (simp; done) | (simp [*]; done), by repeat (first | exact Drawn0.refl _ | apply Drawn0.step)⟩
     rw [if_neg c4] at H; exact absurd H (by simp)
    rw [if_neg c3] at H; exact absurd H (by simp)
   rw [if_neg c2] at H; have c2b0 : decide (x8_1 < (l0.length : Int)) = false := decide_eq_false c2; clear c2; obtain rfl := Option.some.inj H
   go_wp2
   go_ret
   exact ⟨by first | rfl | (simp; done) | (simp [*]; done), by repeat (first | exact Drawn0.refl _ | apply Drawn0.step)⟩

/-! ### impl_LastOrder: function 23 -/
theorem keep4 {w0 W W' : World} {a1 a2 a3 a4 : Addr} {v1 v2 v3 v4 : Value} (h : Below w0.heap.size w0 W ∧ W.cell? a1 = some v1 ∧ W.cell? a2 = some v2 ∧ W.cell? a3 = some v3 ∧ W.cell? a4 = some v4) (hb : Below W.heap.size W W') :
  Below w0.heap.size w0 W' ∧ W'.cell? a1 = some v1 ∧ W'.cell? a2 = some v2 ∧ W'.cell? a3 = some v3 ∧ W'.cell? a4 = some v4 := by
 have kc : ∀ p v, W.cell? p = some v → W'.cell? p = some v := fun p v h => (hb.cell (World.block_lt_of_cell? W _ h)).trans h
 obtain ⟨h0, h1, h2, h3, h4⟩ := h; exact ⟨h0.trans (hb.mono h0.size), kc _ _ h1, kc _ _ h2, kc _ _ h3, kc _ _ h4⟩
theorem two66 (W : World) (a b c d : Int) :
  Below W.heap.size W ((W.alloc (.cells #[.int .i64 a, .int .i64 b] 25)).alloc (.cells #[.int .i64 c, .int .i64 d] 25)) ∧
  ((W.alloc (.cells #[.int .i64 a, .int .i64 b] 25)).alloc (.cells #[.int .i64 c, .int .i64 d] 25)).cell? ⟨W.heap.size, 0, none⟩ = some (.int .i64 a) ∧ ((W.alloc (.cells #[.int .i64 a, .int .i64 b] 25)).alloc (.cells #[.int .i64 c, .int .i64 d] 25)).cell? ⟨W.heap.size, 1, none⟩ = some (.int .i64 b) ∧ ((W.alloc (.cells #[.int .i64 a, .int .i64 b] 25)).alloc (.cells #[.int .i64 c, .int .i64 d] 25)).cell? ⟨W.heap.size + 1, 0, none⟩ = some (.int .i64 c) ∧ ((W.alloc (.cells #[.int .i64 a, .int .i64 b] 25)).alloc (.cells #[.int .i64 c, .int .i64 d] 25)).cell? ⟨W.heap.size + 1, 1, none⟩ = some (.int .i64 d) := by
 refine ⟨qb (qb (Below.refl W.heap.size W) _) _, ?_, ?_, ?_, ?_⟩
 ·rw [World.cell?_alloc2_first]; rfl
 ·rw [World.cell?_alloc2_first]; rfl
 ·rw [World.cell?_alloc2_new]; rfl
 rw [World.cell?_alloc2_new]; rfl
theorem row2 (W : World) (a b : Int) : Kd.C (Kd.int .i64) (W.alloc (.cells #[.int .i64 a, .int .i64 b] 3)) (some ⟨W.heap.size, 0, none⟩) 2 [a, b] := by
 refine ⟨rfl, by omega, fun _ => ⟨⟨W.heap.size, 0, none⟩, rfl, fun j p hp => ⟨[.int .i64 p], rfl, rfl, fun i u hi => ?_⟩⟩⟩; have hj : j < 2 := by rcases Nat.lt_or_ge j 2 with z | z; exact z; rw [List.getElem?_eq_none (by simpa using z)] at hp; simp at hp
 have hi0 : i = 0 := by rcases Nat.lt_or_ge i 1 with z | z; omega; rw [List.getElem?_eq_none (by simpa using z)] at hi; simp at hi
 subst hi0; have hm := World.cell?_alloc_mark W #[.int .i64 a, .int .i64 b] 3 (0, 0) j; have e : (⟨W.heap.size, 0, none⟩ : Addr).add (j * (Kd.int .i64).sz + 0) = ⟨W.heap.size, j, none⟩ := by
  rcases (show j = 0 ∨ j = 1 by omega) with rfl | rfl <;> rfl
 rw [e]; refine hm.trans ?_; have h1 : j = 0 ∨ j = 1 := by omega
 rcases h1 with rfl | rfl <;> simp_all
theorem or2_is (k : Nat) (a b : Int) (hk : 5 ≤ k) : cmp_Or_int.f k [a, b] = some (if a = 0 then b else a) := by
 obtain ⟨k, rfl⟩ : ∃ m, k = m + 3 := ⟨k - 3, by omega⟩; unfold cmp_Or_int.f
 simp [cmp_Or_int.l0, rd, wrap64]
 by_cases h : a = 0
 ·by_cases h2 : b = 0 <;> simp [h, h2]
 simp [h]
def lexV (x y : S25) : Int := if cmp3 x.f1 y.f1 = 0 then cmp3 x.f0 y.f0 else cmp3 x.f1 y.f1
set_option maxHeartbeats 8000000 in
set_option maxRecDepth 100000 in
theorem cl66 (W : World) (x y : S25) :
  Calls Tryz.prog 61 (#[.agg #[.int .i64 x.f0, .int .i64 x.f1], .agg #[.int .i64 y.f0, .int .i64 y.f1]] ++ #[]) W fun e w' => e = .returned (.int .i64 (lexV x y)) ∧ Below W.heap.size W w' := by
 have hu25 := Tryz.underlying25; have mixed : Tryz.prog.follows .mixedOrders = true := by kernel_rfl
 obtain ⟨a, b⟩ := x; obtain ⟨c, d⟩ := y; have HK0 := two66 W a b c d; have hc1 := jb.mk (cmp3_is b d); have hc2 := jb.mk (cmp3_is a c); have hc3 := jb.mk (or2_is 5 (cmp3 b d) (cmp3 a c) (by omega)); unfold lexV; simp only; generalize cmp3 b d = p1 at *; generalize cmp3 a c = p2 at *; generalize (if p1 = 0 then p2 else p1) = cv at *
 show Calls Tryz.prog 61 #[.agg #[.int .i64 a, .int .i64 b], .agg #[.int .i64 c, .int .i64 d]] W _
 go_enter Tryz.func61, Tryz.ntmps61
 go_wp2
 generalize ((W.alloc (.cells #[.int .i64 a, .int .i64 b] 25)).alloc (.cells #[.int .i64 c, .int .i64 d] 25)) = W2 at HK0 ⊢; have HK := jb.mk HK0; clear HK0
 go_region_held3 (fun w' => Below W.heap.size W w' ∧ w'.cell? ⟨W.heap.size, 0, none⟩ = some (.int .i64 a) ∧ w'.cell? ⟨W.heap.size, 1, none⟩ = some (.int .i64 b) ∧ w'.cell? ⟨W.heap.size + 1, 0, none⟩ = some (.int .i64 c) ∧ w'.cell? ⟨W.heap.size + 1, 1, none⟩ = some (.int .i64 d))
  (first | exact keep4 (by first | assumption | exact HK.1) (by first | assumption | exact qc (Below.refl _ _) | exact qb (Below.refl _ _) _))
  (first | (go_at_call 53; (with_reducible refine (cmp_Compare_int.calls b d _ _ hc1.out).mono ?_); rintro e w' ⟨rfl, hd⟩; have hb' := Drawn0.below hd) | (go_at_call 53; (with_reducible refine (cmp_Compare_int.calls a c _ _ hc2.out).mono ?_); rintro e w' ⟨rfl, hd⟩; have hb' := Drawn0.below hd) | (go_at_call 62; refine (cmp_Or_int.calls 5 _ 2 [p1, p2] _ _ (row2 _ p1 p2) (Nat.le_refl 2) hc3.out).mono ?_; rintro e w' ⟨rfl, hd⟩; have hb' := Drawn0.below hd))
 rename_i hH
 have HF := jb.mk hH.1; clear hH hd hb'
 go_wp2
 go_ret
 exact ⟨by first | rfl | (simp; done), HF.1⟩
def impl_LastOrder.f (l0 : List S25) : Option (List Int × Bool) := (impl_AreWalkers.f l0).bind fun t => if t = true then some (orderV lexV l0, true) else some ([], false)
set_option maxHeartbeats 8000000 in
set_option maxRecDepth 100000 in
theorem impl_LastOrder.calls (A0 : Option Addr) (c0 : Nat) (l0 : List (S25)) (r1 : List Int) (r2 : Bool) (w : World) (hr0 : Kd.C k25 w A0 l0.length l0) (hc0 : l0.length ≤ c0) (h : impl_LastOrder.f l0 = some (r1, r2)) :
  Calls Tryz.prog 23 #[.slice A0 l0.length c0] w fun e w' => ∃ v0_ : Value, e = .returned (.tuple #[v0_, .bool r2]) ∧ Kd.R (Kd.int .i64) 3 w' w.heap.size (fun _ => True) v0_ r1 ∧ Below w.heap.size w w' := by
 unfold impl_LastOrder.f at h; obtain ⟨t, ht, h⟩ := Option.bind_eq_some_iff.mp h; have HA := jb.mk (impl_AreWalkers.calls A0 c0 l0 t w hr0 hc0 ht); cases t with
 | false =>
  rw [if_neg (by decide)] at h; simp only [Option.some.injEq, Prod.mk.injEq] at h; obtain ⟨rfl, rfl⟩ := h; clear ht hr0; go_enter Tryz.func23, Tryz.ntmps23
  go_wp2_with (go_at_call 49; refine HA.1.mono ?_; rintro e w' ⟨rfl, hb'⟩)
  go_ret2
  exact ⟨_, rfl, Kd.R_nil _ _ _ _ _, hb'⟩
 | true =>
  rw [if_pos rfl] at h; simp only [Option.some.injEq, Prod.mk.injEq] at h; obtain ⟨rfl, rfl⟩ := h; have hn : 1 ≤ l0.length ∧ l0.length ≤ 8 := by
   unfold impl_AreWalkers.f at ht
   split at ht
   ·simp only [Option.some.injEq, Bool.and_eq_true, decide_eq_true_eq] at ht; omega
   simp at ht
  have eg66 : ∀ args w, (callFunc 61 args).run Tryz.prog w = .ok (.enter 61 args) w := enters_of Tryz.func61 (by kernel_rfl) rfl
  have H62 := jb.mk (show ∀ W : World, Below w.heap.size w W → Calls Tryz.prog 51 #[.slice A0 l0.length c0, .func (.func 61) #[] #[]] W fun e w' => ∃ v, e = .returned v ∧ Kd.R (Kd.int .i64) 3 w' w.heap.size (fun _ => True) v (orderV lexV l0) ∧ Below w.heap.size w w' from fun W hW =>
   (sw62.calls W A0 c0 l0 (Kd.C_below hr0 hW) hn.1 hn.2 61 _ eg66 lexV (fun W' hW' x y => cl66 W' x y)).mono fun e w' ⟨he, hh, hb⟩ => ⟨_, he, orderV_R _ l0 hn.1 hn.2 w' w.heap.size (W.heap.size + 2) (by have := hW.size; omega) hh, hW.trans (hb.mono hW.size)⟩)
  clear ht hr0 eg66; generalize orderV lexV l0 = r at *; go_enter Tryz.func23, Tryz.ntmps23
  go_wp2_with (first | (go_at_call 49; refine HA.1.mono ?_; rintro e w1 ⟨rfl, hb1⟩) | (go_at_call 51; refine (H62.1 _ hb1).mono ?_; rintro e w3 ⟨v, rfl, hR, hb3⟩))
  go_ret2
  exact ⟨_, rfl, hR, hb3⟩

/-! ### spec_LastOrder: function 24 -/
def spec_LastOrder.l0 : Nat → List (List Int) → List (S25) → Int → Int → Option (List Int × Bool)
 | 0, _, _, _, _ => none
 | k + 1, x4, x10, x11, x12 => if x12 < x11 then (if 0 ≤ x12 then (if x12 < (x10.length : Int) then (if x4.length < 5864062014805 then (spec_LastOrder.l0 k (x4 ++ [(([(je x10 x12).f1, (je x10 x12).f0] : List Int))]) x10 x11 (wrap64 (x12 + 1))) else (none)) else (none)) else (none)) else ((spec_meOrder.f k x4).bind fun t542 => (some (t542, true)))
def spec_LastOrder.f (k : Nat) (l0 : List (S25)) : Option (List Int × Bool) := (spec_meAll.f k l0).bind fun t533 => (if t533 = true then (spec_LastOrder.l0 k ([] : List (List Int)) l0 (l0.length : Int) 0) else (some (([] : List Int), false)))
set_option maxHeartbeats 8000000 in
set_option maxRecDepth 100000 in
theorem spec_LastOrder.calls (k : Nat) (A0 : Option Addr) (c0 : Nat) (l0 : List (S25)) (r1 : List Int) (r2 : Bool) (w : World) (hr0 : Kd.C k25 w A0 l0.length l0) (hc0 : l0.length ≤ c0) (h : spec_LastOrder.f k l0 = some (r1, r2)) :
  Calls Tryz.prog 24 #[.slice A0 l0.length c0] w fun e w' => ∃ v0_ : Value, e = .returned (.tuple #[v0_, .bool r2]) ∧ Kd.R (Kd.int .i64) 3 w' w.heap.size (fun _ => True) v0_ r1 ∧ Below w.heap.size w w' := by
 have hu25 := Tryz.underlying25; have HR0 := jb.mk hr0; have HC0 := jb.mk hc0; clear hr0 hc0; have HB := jb.mk (Below.refl w.heap.size w); have H : ((spec_meAll.f k l0).bind fun t533 => (if t533 = true then (spec_LastOrder.l0 k ([] : List (List Int)) l0 (l0.length : Int) 0) else (some (([] : List Int), false)))) = some (r1, r2) := h; clear h; replace H := Option.bind_eq_some_iff.mp H; obtain ⟨t533, A20, H⟩ := H
 try dsimp only at H
 have A2 := jb.mk A20; clear A20
 by_cases c3 : t533 = true
 ·subst c3; rw [if_pos rfl] at H; have H' := jb.mk H; clear H; go_enter Tryz.func24, Tryz.ntmps24
  go_wp2_with (((with_reducible refine qo (f := 55) rfl ?_); refine qy (some 8) rfl rfl Tryz.func55 (by kernel_rfl) rfl #[.slice A0 l0.length c0] rfl (by (try simp only [List.map_toArray, List.map_cons, List.map_nil]); first | done | rfl | (simp only [List.length_drop, List.length_take]; rfl)) ?_; (with_reducible refine (spec_meAll.calls k _ _ l0 true _ ?side1 ?side2 A2.1).mono ?_); (case side1 => repeat (first | exact HR0.1 | (with_reducible refine Kd.C_alloc ?_ _) | (with_reducible refine Kd.C_drewN ?_ _) | (with_reducible refine Kd.C_drew ?_))); (case side2 => exact HC0.1); rintro e w4 ⟨rfl, hb⟩; refine ⟨_, rfl, ?_⟩; have n0_ := jb.mk (qk (by repeat (first | (with_reducible first | exact HB.1 | apply qb | apply qa | apply qc) | exact HB.1)) hb); clear HB; have HB := n0_; clear n0_; (try clear hb); (try clear hb2); (try clear hk); (try clear hi)))
  go_loopg [4, 12] k (fun kq v4 v12 w' => ∃ (x4_1 : List (List Int)) (x12_1 : Int), v12 = .int .i64 x12_1 ∧ jb (spec_LastOrder.l0 kq x4_1 l0 (l0.length : Int) x12_1 = some (r1, r2)) ∧ jb (kq ≤ k) ∧ jb (Kd.S (Kd.slice 3 (Kd.int .i64)) 35 w' w.heap.size (fun _ => True) v4 x4_1) ∧ jb (Below w.heap.size w w'))
  case atStart => exact ⟨(([] : List (List Int))), (0), (by first | rfl | (simp; done) | (simp [*]; done)), H', ⟨Nat.le_refl _⟩, ⟨by first | exact Kd.S_nil _ _ _ _ _ | exact Kd.N_nil _ _ _ _ _ | exact Kd.V_nil _ _ _ _ _ | exact Kd.Q_nil _ _ _ _ _ | exact Kd.R_nil _ _ _ _ _⟩, ⟨by repeat (first | (with_reducible first | exact HB.1 | apply qb | apply qa | apply qc) | exact HB.1)⟩⟩
  case round =>
   clear H'; (try clear c2); (try clear p2); (try clear c3); obtain ⟨x4_1, x12_1, rfl, HA, HK1, HO_4, HB⟩ := hrel; cases gk with
   | zero => exact absurd HA.1 (by simp [spec_LastOrder.l0])
   | succ k1 =>
    have H := HA.1; clear HA; simp only [spec_LastOrder.l0] at H
    by_cases c5 : x12_1 < (l0.length : Int)
    ·rw [if_pos c5] at H; have c5b0 : decide (x12_1 < (l0.length : Int)) = true := decide_eq_true c5; clear c5
     by_cases c6 : 0 ≤ x12_1
     ·rw [if_pos c6] at H; have c6b0 : decide (0 ≤ x12_1) = true := decide_eq_true c6; clear c6
      by_cases c7 : x12_1 < (l0.length : Int)
      ·rw [if_pos c7] at H; have c7b0 : decide (x12_1 < (l0.length : Int)) = true := decide_eq_true c7; clear c7; obtain ⟨y536, hy536⟩ : ∃ y_ : List Int, y_ = (([(je l0 x12_1).f1, (je l0 x12_1).f0] : List Int)) := ⟨_, rfl⟩; replace H : (if x4_1.length < 5864062014805 then (spec_LastOrder.l0 k1 (x4_1 ++ [y536]) l0 (l0.length : Int) (wrap64 (x12_1 + 1))) else (none)) = some (r1, r2) := by first | (rw [hy536]; with_reducible exact H) | (have H2_ := (Option.bind_some _ _).symm.trans H; rw [hy536]; with_reducible exact H2_) | (have H2_ := (Option.bind_some _ _).symm.trans H; with_reducible exact H2_) | with_reducible exact H | (rw [hy536]; exact H) | exact H
       have Ny536 := jb.mk hy536; clear hy536
       by_cases c8 : x4_1.length < 5864062014805
       ·rw [if_pos c8] at H; have LMc8 := jb.mk c8; clear c8; obtain ⟨y539, hy539⟩ : ∃ y_ : List (List Int), y_ = (x4_1 ++ [y536]) := ⟨_, rfl⟩; replace H : (spec_LastOrder.l0 k1 y539 l0 (l0.length : Int) (wrap64 (x12_1 + 1))) = some (r1, r2) := by first | (rw [hy539]; with_reducible exact H) | (have H2_ := (Option.bind_some _ _).symm.trans H; rw [hy539]; with_reducible exact H2_) | (have H2_ := (Option.bind_some _ _).symm.trans H; with_reducible exact H2_) | with_reducible exact H | (rw [hy539]; exact H) | exact H
        have Ny539 := jb.mk hy539; clear hy539; have H' := jb.mk H; clear H; have p534 : 0 ≤ (x12_1 : Int) := of_decide_eq_true (by first | (with_reducible assumption) | assumption); have q534 : x12_1 < (l0.length : Int) := of_decide_eq_true (by first | (with_reducible assumption) | assumption); obtain ⟨ad534, e534, hx534_0, hx534_1⟩ := at_T25 HR0.1 x12_1 p534 q534; cases e534; replace hx534_0 := (HB.1.cell (World.block_lt_of_cell? w _ hx534_0)).trans hx534_0; replace hx534_1 := (HB.1.cell (World.block_lt_of_cell? w _ hx534_1)).trans hx534_1; replace p534 := eq_true p534; replace q534 := eq_true q534
        go_wp2_with (first | ((with_reducible refine qv (N := 6) rfl ?_); refine qw ?hg (N := 6) ?hd (cs := #[.int .i64 0, .int .i64 0]) (t := 25) ?hr ?_; (case hd => rfl); (case hg => rfl); (case hr => first | (go_simp; done) | (go_simp; rfl)); intro gb535 hg w9 hbox hb; have n0_ := jb.mk (Kd.S_below (by (with_reducible repeat (first | apply Kd.S_alloc | apply Kd.S_drewN | apply Kd.S_drew)); exact HO_4.1) hb); have n1_ := jb.mk (qk (by repeat (first | (with_reducible first | exact HB.1 | apply qb | apply qa | apply qc) | exact HB.1)) hb); have n2_ := jb.mk (hbox); have n3_ := jb.mk ((by rw [hg]; exact (ql (by repeat (first | (with_reducible first | exact HB.1 | apply qb | apply qa | apply qc) | exact HB.1))) : w.heap.size ≤ gb535)); have n4_ := jb.mk ((by rw [hg]; exact (ql (by repeat (first | (with_reducible first | exact HB.1 | apply qb | apply qa | apply qc) | exact HB.1))) : w.heap.size ≤ gb535)); clear HO_4; clear HB; have HO_4 := n0_; have HB := n1_; have BK535 := n2_; have GW535 := n3_; have GE535 := n4_; clear n0_ n1_ n2_ n3_ n4_; clear hb hbox hg; have hcz10_0 : w9.cell? ⟨gb535, 0, none⟩ = some (.int .i64 0) := (qh BK535.1 0).trans rfl; have hcz10_1 : w9.cell? ⟨gb535, 1, none⟩ = some (.int .i64 0) := (qh BK535.1 1).trans rfl; have hfz10_0 := qg BK535.1 0; have hfz10_1 := qg BK535.1 1) | ((with_reducible refine qv (N := 21) rfl ?_); refine Kd.R_lit (Kd.int .i64) _ 3 ?hg (N := 21) ?hd (xs := ([(je l0 x12_1).f1, (je l0 x12_1).f0] : List Int)) (inner := [.int .i64 ((je l0 x12_1).f1), .int .i64 ((je l0 x12_1).f0)]) (ok := fun _ => True) (okp := fun _ => True) ?hr ?hp (fun _ hk => hk) trivial (Below.refl _ _) (Nat.le_refl _) (by simp) ?_; (case hd => rfl); (case hg => rfl); (case hr => first | (go_simp; done) | (go_simp; rfl)); (case hp => exact (Reps.one (show Kd.M (Kd.int .i64) _ _ _ ((je l0 x12_1).f1) [.int .i64 ((je l0 x12_1).f1)] from rfl) (Reps.one (show Kd.M (Kd.int .i64) _ _ _ ((je l0 x12_1).f0) [.int .i64 ((je l0 x12_1).f0)] from rfl) (Reps.none _ _)))); intro v537 w11 ho12 hb hg_ hnew_; clear hg_ hnew_; (first | rw [← Ny536.out] at ho12 | (simp only [Int.reduceToNat] at ho12; rw [← Ny536.out] at ho12)); have n0_ := jb.mk (Kd.S_elder' (by (with_reducible repeat (first | apply Kd.S_alloc | apply Kd.S_drewN | apply Kd.S_drew)); exact (Kd.S_mono (Kd.S_far (p := ⟨gb535, 1, none⟩) (Kd.S_far (p := ⟨gb535, 0, none⟩) (Kd.S_types HO_4.1 BK535.1 (by decide)) (fun _ hk => hk.2) (.int .i64 ((je l0 x12_1).f0))) (fun _ hk => hk.2) (.int .i64 ((je l0 x12_1).f1))) (fun _ h_ => h_.1))) (Kd.R_base ho12) hb); have n1_ := jb.mk (Kd.R_lower ho12 (ql (by repeat (first | (with_reducible first | exact HB.1 | apply qb | apply qa | apply qc | refine qd ?_ GE535.out) | exact HB.1)))); have n2_ := jb.mk (qu (g := gb535) (o := .cells #[.int .i64 ((je l0 x12_1).f0), .int .i64 ((je l0 x12_1).f1)] 25 (0, 0)) (by (with_reducible repeat (first | refine qf ?_ _ | refine qi ?_ | refine qe ?_ _)); refine blk_put (cs := #[.int .i64 ((je l0 x12_1).f0), .int .i64 0]) ?_ 1 _ rfl; (with_reducible repeat (first | refine qf ?_ _ | refine qi ?_ | refine qe ?_ _)); refine blk_put (cs := #[.int .i64 0, .int .i64 0]) ?_ 0 _ rfl; (with_reducible repeat (first | refine qf ?_ _ | refine qi ?_ | refine qe ?_ _)); exact BK535.1) hb); have n3_ := jb.mk (qk (by repeat (first | (with_reducible first | exact HB.1 | apply qb | apply qa | apply qc | refine qd ?_ GE535.out) | exact HB.1)) hb); clear HO_4; clear BK535; clear HB; have HO_4 := n0_; have HO538 := n1_; have BK535 := n2_; have HB := n3_; clear n0_ n1_ n2_ n3_; clear hb ho12; obtain ⟨Ao14, co14, eo14⟩ := Kd.R_slice HO538.1; subst eo14) | ((with_reducible refine gate_builtin (b := .append) (xs := #[.tmp 16, .tmp 22]) rfl ?_); at_builtin; refine Kd.S_append (Kd.slice 3 (Kd.int .i64)) (w0 := w) w.heap.size rfl (.tmp 16) (.tmp 22) 28 35 (.slice none 0 0) 24 rfl Tryz.underlying28 info35 rfl (by decide) (by omega) u4 x4_1 y536 [.slice Ao14 y536.length co14] (fun _ => True) (fun k_ => some k_ = (.slice Ao14 y536.length co14 : Value).ownBlock) rfl rfl ?aP (fun k_ hk_ => ((Kd.R_mono (ok' := fun k_ => ((fun _ => True)) k_ ∧ some k_ ≠ (u4 : Value).ownBlock) (Kd.R_apart' (HO538.1) (Kd.S_typed HO_4.1) (by decide)) (fun k_ hk => ⟨trivial, hk.2⟩))).1 k_ hk_.symm) ?aF ?aO ?aB ?aS ?aL ?_; (case aP => exact Kd.M_row (Kd.R_mono (Kd.R_tight rfl (Kd.R_mono (ok' := fun k_ => ((fun _ => True)) k_ ∧ some k_ ≠ (u4 : Value).ownBlock) (Kd.R_apart' (HO538.1) (Kd.S_typed HO_4.1) (by decide)) (fun k_ hk => ⟨trivial, hk.2⟩))) (fun _ h_ => h_))); (case aB => exact (by repeat (first | (with_reducible first | exact HB.1 | apply qb | apply qa | apply qc | refine qd ?_ GE535.out) | exact HB.1))); (case aF => exact (fun _ _ => trivial)); (case aO => exact (by (with_reducible repeat (first | apply Kd.S_alloc | apply Kd.S_drewN | apply Kd.S_drew)); exact Kd.S_mono HO_4.1 (fun k_ hk => ⟨trivial, fun e_ => hk.2 e_⟩))); (case aS => exact (ql (by repeat (first | (with_reducible first | exact HB.1 | apply qb | apply qa | apply qc | refine qd ?_ GE535.out) | exact HB.1)))); (case aL => have := LMc8.out; omega); intro v540 w13 ho hb hg hat; rw [← Ny539.out] at ho; have n0_ := jb.mk (blk_grown (g := gb535) (o := .cells #[.int .i64 ((je l0 x12_1).f0), .int .i64 ((je l0 x12_1).f1)] 25 (0, 0)) (by (with_reducible repeat (first | refine qf ?_ _ | refine qi ?_ | refine qe ?_ _)); exact BK535.1) hg (Kd.S_ne HO_4.1 BK535.1 (by decide))); have n1_ := jb.mk (hb); have n2_ := jb.mk (ho); clear BK535; clear HB; clear HO_4; clear HO538; have BK535 := n0_; have HB := n1_; have HO541 := n2_; clear n0_ n1_ n2_; clear ho hb hg hat))
        go_roundg k1
        case measure => have := HK1.1; omega
        case rel => exact ⟨(y539), (wrap64 (x12_1 + 1)), (by first | rfl | (simp; done) | (simp [*]; done)), H', ⟨by have := HK1.1; omega⟩, ⟨by (with_reducible repeat (first | apply Kd.S_alloc | apply Kd.S_drewN | apply Kd.S_drew)); exact HO541.1⟩, ⟨by repeat (first | (with_reducible first | exact HB.1 | apply qb | apply qa | apply qc | refine qd ?_ GE535.out) | exact HB.1)⟩⟩
       rw [if_neg c8] at H; exact absurd H (by simp)
      rw [if_neg c7] at H; exact absurd H (by simp)
     rw [if_neg c6] at H; exact absurd H (by simp)
    rw [if_neg c5] at H; have c5b0 : decide (x12_1 < (l0.length : Int)) = false := decide_eq_false c5; clear c5; replace H := Option.bind_eq_some_iff.mp H; obtain ⟨t542, A150, H⟩ := H
    try dsimp only at H
    have A15 := jb.mk A150; clear A150; simp only [Option.some.injEq, Prod.mk.injEq] at H; obtain ⟨rfl, rfl⟩ := H; obtain ⟨Ao16, co16, eo16⟩ := Kd.S_slice HO_4.1; subst eo16
    go_wp2_with (((with_reducible refine qo (f := 57) rfl ?_); refine qy (some 26) rfl rfl Tryz.func57 (by kernel_rfl) rfl #[.slice Ao16 x4_1.length co16] rfl (by (try simp only [List.map_toArray, List.map_cons, List.map_nil]); first | done | rfl | (simp only [List.length_drop, List.length_take]; rfl)) ?_; (with_reducible refine (spec_meOrder.calls k1 _ _ x4_1 t542 _ ?side1 ?side2 A15.1).mono ?_); (case side1 => repeat (first | exact (Kd.S_reads' HO_4.1).2.2 | (with_reducible refine Kd.C_alloc ?_ _) | (with_reducible refine Kd.C_drewN ?_ _) | (with_reducible refine Kd.C_drew ?_))); (case side2 => exact (Kd.S_reads' HO_4.1).2.1); rintro e w17 ⟨v543, rfl, ho0, hb⟩; refine ⟨_, rfl, ?_⟩; have n0_ := jb.mk (Kd.S_elder' (by (with_reducible repeat (first | apply Kd.S_alloc | apply Kd.S_drewN | apply Kd.S_drew)); exact HO_4.1) (Kd.R_base ho0) hb); have n1_ := jb.mk (Kd.R_lower ho0 (ql (by repeat (first | (with_reducible first | exact HB.1 | apply qb | apply qa | apply qc) | exact HB.1)))); have n2_ := jb.mk (qk (by repeat (first | (with_reducible first | exact HB.1 | apply qb | apply qa | apply qc) | exact HB.1)) hb); clear HO_4; clear HB; have HO_4 := n0_; have HO544 := n1_; have HB := n2_; clear n0_ n1_ n2_; (try clear hb); (try clear hb2); (try clear hk); (try clear hi); (try clear ho0)))
    go_ret2
    exact ⟨_, by first | rfl | (simp [qr, qq] <;> rfl) | (simp [*, qr, qq] <;> rfl), by (with_reducible repeat (first | apply Kd.ja | apply Kd.qz | apply Kd.R_drew)); exact HO544.1, by repeat (first | (with_reducible first | exact HB.1 | apply qb | apply qa | apply qc) | exact HB.1)⟩
 replace c3 := Bool.eq_false_iff.mpr c3; subst c3; rw [if_neg (show ¬ (false = true) by decide)] at H; simp only [Option.some.injEq, Prod.mk.injEq] at H; obtain ⟨rfl, rfl⟩ := H; go_enter Tryz.func24, Tryz.ntmps24
 go_wp2_with (((with_reducible refine qo (f := 55) rfl ?_); refine qy (some 8) rfl rfl Tryz.func55 (by kernel_rfl) rfl #[.slice A0 l0.length c0] rfl (by (try simp only [List.map_toArray, List.map_cons, List.map_nil]); first | done | rfl | (simp only [List.length_drop, List.length_take]; rfl)) ?_; (with_reducible refine (spec_meAll.calls k _ _ l0 false _ ?side1 ?side2 A2.1).mono ?_); (case side1 => repeat (first | exact HR0.1 | (with_reducible refine Kd.C_alloc ?_ _) | (with_reducible refine Kd.C_drewN ?_ _) | (with_reducible refine Kd.C_drew ?_))); (case side2 => exact HC0.1); rintro e w18 ⟨rfl, hb⟩; refine ⟨_, rfl, ?_⟩; have n0_ := jb.mk (qk (by repeat (first | (with_reducible first | exact HB.1 | apply qb | apply qa | apply qc) | exact HB.1)) hb); clear HB; have HB := n0_; clear n0_; (try clear hb); (try clear hb2); (try clear hk); (try clear hi)))
 go_ret2
 exact ⟨_, by first | rfl | (simp [qr, qq] <;> rfl) | (simp [*, qr, qq] <;> rfl), by first | exact Kd.R_nil _ _ _ _ _ | exact Kd.N_nil _ _ _ _ _ | exact Kd.V_nil _ _ _ _ _ | exact Kd.Q_nil _ _ _ _ _ | exact Kd.S_nil _ _ _ _ _, by repeat (first | (with_reducible first | exact HB.1 | apply qb | apply qa | apply qc) | exact HB.1)⟩

-- NOT PRINTED: function 25 (spec_DrawAllAtStart)

/-! ### impl_AllAtStart: function 26 -/
mutual
def impl_AllAtStart.j0 : Nat → Int → List (S25) → Bool → Option (Int × Int × Bool)
 | 0, _, _, _ => none
 | k + 1, x0, x1, x19 => if x19 = true then (some (0, 0, false)) else (impl_AllAtStart.l0 k x0 0 x1 (x1.length : Int) 0)
def impl_AllAtStart.l0 : Nat → Int → Int → List (S25) → Int → Int → Option (Int × Int × Bool)
 | 0, _, _, _, _, _ => none
 | k + 1, x0, x7, x20, x21, x22 => if x22 < x21 then (if 0 ≤ x22 then (if x22 < (x20.length : Int) then ((impl_absOf.f ((je x20 x22).f1)).bind fun t558 => ((impl_divisorOf.f k x7 t558).bind fun t559 => (impl_AllAtStart.l0 k x0 t559 x20 x21 (wrap64 (x22 + 1))))) else (none)) else (none)) else (if x7 = 0 then (some (0, 0, false)) else ((impl_lowest.f k x0 x7).bind fun bt560 => (some (bt560.1, bt560.2, true))))
end
def impl_AllAtStart.f (k : Nat) (a0 : Int) (l1 : List (S25)) : Option (Int × Int × Bool) := (impl_isRing.f a0).bind fun t554 => (if t554 = true then ((impl_AreWalkers.f l1).bind fun t555 => (impl_AllAtStart.j0 k a0 l1 (!t555))) else (impl_AllAtStart.j0 k a0 l1 true))
set_option maxHeartbeats 8000000 in
set_option maxRecDepth 100000 in
theorem impl_AllAtStart.calls (k : Nat) (a0 : Int) (A1 : Option Addr) (c1 : Nat) (l1 : List (S25)) (r1 : Int) (r2 : Int) (r3 : Bool) (w : World) (hr1 : Kd.C k25 w A1 l1.length l1) (hc1 : l1.length ≤ c1) (h : impl_AllAtStart.f k a0 l1 = some (r1, r2, r3)) :
  Calls Tryz.prog 26 #[.int .i64 a0, .slice A1 l1.length c1] w fun e w' => e = .returned (.tuple #[.int .i64 r1, .int .i64 r2, .bool r3]) ∧ Below w.heap.size w w' := by
 have hu25 := Tryz.underlying25; have HR1 := jb.mk hr1; have HC1 := jb.mk hc1; clear hr1 hc1; have HB := jb.mk (Below.refl w.heap.size w); have H : ((impl_isRing.f a0).bind fun t554 => (if t554 = true then ((impl_AreWalkers.f l1).bind fun t555 => (impl_AllAtStart.j0 k a0 l1 (!t555))) else (impl_AllAtStart.j0 k a0 l1 true))) = some (r1, r2, r3) := h; clear h; have HC3 := jb.mk H; clear H; go_enter Tryz.func26, Tryz.ntmps26
 go_upto_region 1 with (fail)
 go_cut [19] (fun v19 wc => ∃ (kq : Nat) (x19_2 : Bool), v19 = .bool x19_2 ∧ jb (impl_AllAtStart.j0 kq a0 l1 x19_2 = some (r1, r2, r3)) ∧ jb (kq ≤ k) ∧ jb (Below w.heap.size w wc))
 case first =>
  have H := HC3.1; clear HC3; replace H := Option.bind_eq_some_iff.mp H; obtain ⟨t554, A40, H⟩ := H
  try dsimp only at H
  have A4 := jb.mk A40; clear A40
  by_cases c5 : t554 = true
  ·subst c5; rw [if_pos rfl] at H; replace H := Option.bind_eq_some_iff.mp H; obtain ⟨t555, A60, H⟩ := H
   try dsimp only at H
   have A6 := jb.mk A60; clear A60; have H' := jb.mk H; clear H
   go_wp2_with (first | ((with_reducible refine qo (f := 31) rfl ?_); refine qy (some 13) rfl rfl Tryz.func31 (by kernel_rfl) rfl #[.int .i64 a0] rfl (by (try simp only [List.map_toArray, List.map_cons, List.map_nil]); first | done | rfl | (simp only [List.length_drop, List.length_take]; rfl)) ?_; (with_reducible refine (impl_isRing.calls a0 true _ A4.1).mono ?_); rintro e w' ⟨rfl, ⟨nd, rfl⟩⟩; refine ⟨_, rfl, ?_⟩) | (go_at_call 49; (with_reducible refine (impl_AreWalkers.calls _ _ l1 t555 _ ?side1 ?side2 A6.1).mono ?_); (case side1 => repeat (first | exact (Kd.C_below HR1.1 (by repeat (first | (with_reducible first | exact HB.1 | apply qb | apply qa | apply qc) | exact HB.1))) | (with_reducible refine Kd.C_alloc ?_ _) | (with_reducible refine Kd.C_drewN ?_ _) | (with_reducible refine Kd.C_drew ?_))); (case side2 => exact HC1.1); rintro e w7 ⟨rfl, hb⟩; have n0_ := jb.mk (qk (by repeat (first | (with_reducible first | exact HB.1 | apply qb | apply qa | apply qc) | exact HB.1)) hb); clear HB; have HB := n0_; clear n0_; (try clear hb); (try clear hb2); (try clear hk); (try clear hi)))
   go_meet
   case rel => exact ⟨_, (!t555), (by first | rfl | (simp; done) | (simp [*]; done)), H', ⟨by first | omega | exact Nat.le_refl _⟩, ⟨by repeat (first | (with_reducible first | exact HB.1 | apply qb | apply qa | apply qc) | exact HB.1)⟩⟩
  replace c5 := Bool.eq_false_iff.mpr c5; subst c5; rw [if_neg (show ¬ (false = true) by decide)] at H; have H' := jb.mk H; clear H
  go_wp2_with (((with_reducible refine qo (f := 31) rfl ?_); refine qy (some 13) rfl rfl Tryz.func31 (by kernel_rfl) rfl #[.int .i64 a0] rfl (by (try simp only [List.map_toArray, List.map_cons, List.map_nil]); first | done | rfl | (simp only [List.length_drop, List.length_take]; rfl)) ?_; (with_reducible refine (impl_isRing.calls a0 false _ A4.1).mono ?_); rintro e w' ⟨rfl, ⟨nd, rfl⟩⟩; refine ⟨_, rfl, ?_⟩))
  go_meet
  case rel => exact ⟨_, (true), (by first | rfl | (simp; done) | (simp [*]; done)), H', ⟨by first | omega | exact Nat.le_refl _⟩, ⟨by repeat (first | (with_reducible first | exact HB.1 | apply qb | apply qa | apply qc) | exact HB.1)⟩⟩
 case rest =>
  clear HC3; (try clear c1); (try clear c2); (try clear p2); (try clear c3); (try clear c5); obtain ⟨kq, x19_2, rfl, HA, HJ2, HB⟩ := hcut; cases kq with
  | zero => exact absurd HA.1 (by simp [impl_AllAtStart.j0])
  | succ kj2 =>
   have H := HA.1; clear HA; simp only [impl_AllAtStart.j0] at H
   by_cases c8 : x19_2 = true
   ·subst c8; rw [if_pos rfl] at H; simp only [Option.some.injEq, Prod.mk.injEq] at H; obtain ⟨rfl, rfl, rfl⟩ := H
    go_wp2
    go_ret3
    exact ⟨by first | rfl | (simp [qr, qq] <;> rfl) | (simp [*, qr, qq] <;> rfl), by repeat (first | (with_reducible first | exact HB.1 | apply qb | apply qa | apply qc) | exact HB.1)⟩
   replace c8 := Bool.eq_false_iff.mpr c8; subst c8; rw [if_neg (show ¬ (false = true) by decide)] at H; have H' := jb.mk H; clear H
   go_wp2
   go_loopg [7, 22] kj2 (fun kq v7 v22 w' => ∃ (x7_2 : Int) (x22_2 : Int), v7 = .int .i64 x7_2 ∧ v22 = .int .i64 x22_2 ∧ jb (impl_AllAtStart.l0 kq a0 x7_2 l1 (l1.length : Int) x22_2 = some (r1, r2, r3)) ∧ jb (kq ≤ kj2) ∧ jb (Below w.heap.size w w'))
   case atStart => exact ⟨(0), (0), (by first | rfl | (simp; done) | (simp [*]; done)), (by first | rfl | (simp; done) | (simp [*]; done)), H', ⟨Nat.le_refl _⟩, ⟨by repeat (first | (with_reducible first | exact HB.1 | apply qb | apply qa | apply qc) | exact HB.1)⟩⟩
   case round =>
    clear H'; (try clear c1); (try clear c2); (try clear p2); (try clear c3); (try clear c5); (try clear c8); (try clear p2); obtain ⟨x7_2, x22_2, rfl, rfl, HA, HK2, HB⟩ := hrel; cases gk with
    | zero => exact absurd HA.1 (by simp [impl_AllAtStart.l0])
    | succ k2 =>
     have H := HA.1; clear HA; simp only [impl_AllAtStart.l0] at H
     by_cases c9 : x22_2 < (l1.length : Int)
     ·rw [if_pos c9] at H; have c9b0 : decide (x22_2 < (l1.length : Int)) = true := decide_eq_true c9; clear c9
      by_cases c10 : 0 ≤ x22_2
      ·rw [if_pos c10] at H; have c10b0 : decide (0 ≤ x22_2) = true := decide_eq_true c10; clear c10
       by_cases c11 : x22_2 < (l1.length : Int)
       ·rw [if_pos c11] at H; have c11b0 : decide (x22_2 < (l1.length : Int)) = true := decide_eq_true c11; clear c11; replace H := Option.bind_eq_some_iff.mp H; obtain ⟨t558, A120, H⟩ := H
        try dsimp only at H
        have A12 := jb.mk A120; clear A120; replace H := Option.bind_eq_some_iff.mp H; obtain ⟨t559, A130, H⟩ := H
        try dsimp only at H
        have A13 := jb.mk A130; clear A130; have H' := jb.mk H; clear H; have p556 : 0 ≤ (x22_2 : Int) := of_decide_eq_true (by first | (with_reducible assumption) | assumption); have q556 : x22_2 < (l1.length : Int) := of_decide_eq_true (by first | (with_reducible assumption) | assumption); obtain ⟨ad556, e556, hx556_0, hx556_1⟩ := at_T25 HR1.1 x22_2 p556 q556; cases e556; replace hx556_0 := (HB.1.cell (World.block_lt_of_cell? w _ hx556_0)).trans hx556_0; replace hx556_1 := (HB.1.cell (World.block_lt_of_cell? w _ hx556_1)).trans hx556_1; replace p556 := eq_true p556; replace q556 := eq_true q556
        go_wp2_with (first | ((with_reducible refine qv (N := 9) rfl ?_); refine qw ?hg (N := 9) ?hd (cs := #[.int .i64 0, .int .i64 0]) (t := 25) ?hr ?_; (case hd => rfl); (case hg => rfl); (case hr => first | (go_simp; done) | (go_simp; rfl)); intro gb557 hg w14 hbox hb; have n0_ := jb.mk (qk (by repeat (first | (with_reducible first | exact HB.1 | apply qb | apply qa | apply qc) | exact HB.1)) hb); have n1_ := jb.mk (hbox); have n2_ := jb.mk ((by rw [hg]; exact (ql (by repeat (first | (with_reducible first | exact HB.1 | apply qb | apply qa | apply qc) | exact HB.1))) : w.heap.size ≤ gb557)); have n3_ := jb.mk ((by rw [hg]; exact (ql (by repeat (first | (with_reducible first | exact HB.1 | apply qb | apply qa | apply qc) | exact HB.1))) : w.heap.size ≤ gb557)); clear HB; have HB := n0_; have BK557 := n1_; have GW557 := n2_; have GE557 := n3_; clear n0_ n1_ n2_ n3_; clear hb hbox hg; have hcz15_0 : w14.cell? ⟨gb557, 0, none⟩ = some (.int .i64 0) := (qh BK557.1 0).trans rfl; have hcz15_1 : w14.cell? ⟨gb557, 1, none⟩ = some (.int .i64 0) := (qh BK557.1 1).trans rfl; have hfz15_0 := qg BK557.1 0; have hfz15_1 := qg BK557.1 1) | ((with_reducible refine qo (f := 41) rfl ?_); refine qy (some 29) rfl rfl Tryz.func41 (by kernel_rfl) rfl #[.int .i64 ((je l1 x22_2).f1)] rfl (by (try simp only [List.map_toArray, List.map_cons, List.map_nil]); first | done | rfl | (simp only [List.length_drop, List.length_take]; rfl)) ?_; (with_reducible refine (impl_absOf.calls ((je l1 x22_2).f1) t558 _ A12.1).mono ?_); rintro e w16 ⟨rfl, hb⟩; refine ⟨_, rfl, ?_⟩; have n0_ := jb.mk (qu (g := gb557) (o := .cells #[.int .i64 ((je l1 x22_2).f0), .int .i64 ((je l1 x22_2).f1)] 25 (0, 0)) (by (with_reducible repeat (first | refine qf ?_ _ | refine qi ?_ | refine qe ?_ _)); refine blk_put (cs := #[.int .i64 ((je l1 x22_2).f0), .int .i64 0]) ?_ 1 _ rfl; (with_reducible repeat (first | refine qf ?_ _ | refine qi ?_ | refine qe ?_ _)); refine blk_put (cs := #[.int .i64 0, .int .i64 0]) ?_ 0 _ rfl; (with_reducible repeat (first | refine qf ?_ _ | refine qi ?_ | refine qe ?_ _)); exact BK557.1) hb); have n1_ := jb.mk (qk (by repeat (first | (with_reducible first | exact HB.1 | apply qb | apply qa | apply qc | refine qd ?_ GE557.out) | exact HB.1)) hb); clear BK557; clear HB; have BK557 := n0_; have HB := n1_; clear n0_ n1_; (try clear hb); (try clear hb2); (try clear hk); (try clear hi)) | ((with_reducible refine qo (f := 63) rfl ?_); refine qy (some 30) rfl rfl Tryz.func63 (by kernel_rfl) rfl #[.int .i64 x7_2, .int .i64 t558] rfl (by (try simp only [List.map_toArray, List.map_cons, List.map_nil]); first | done | rfl | (simp only [List.length_drop, List.length_take]; rfl)) ?_; (with_reducible refine (impl_divisorOf.calls k2 x7_2 t558 t559 _ A13.1).mono ?_); rintro e w' ⟨rfl, ⟨nd, rfl⟩⟩; refine ⟨_, rfl, ?_⟩))
        go_roundg k2
        case measure => have := HJ2.1; have := HK2.1; omega
        case rel => exact ⟨(t559), (wrap64 (x22_2 + 1)), (by first | rfl | (simp; done) | (simp [*]; done)), (by first | rfl | (simp; done) | (simp [*]; done)), H', ⟨by have := HJ2.1; have := HK2.1; omega⟩, ⟨by repeat (first | (with_reducible first | exact HB.1 | apply qb | apply qa | apply qc | refine qd ?_ GE557.out) | exact HB.1)⟩⟩
       rw [if_neg c11] at H; exact absurd H (by simp)
      rw [if_neg c10] at H; exact absurd H (by simp)
     rw [if_neg c9] at H; have c9b0 : decide (x22_2 < (l1.length : Int)) = false := decide_eq_false c9; clear c9
     by_cases c17 : x7_2 = 0
     ·rw [if_pos c17] at H; have c17b0 : (x7_2 == 0) = true := beq_iff_eq.mpr c17; have c17b1 : (x7_2 != 0) = false := bne_eq_false_iff_eq.mpr c17; clear c17; simp only [Option.some.injEq, Prod.mk.injEq] at H; obtain ⟨rfl, rfl, rfl⟩ := H
      go_wp2
      go_ret3
      exact ⟨by first | rfl | (simp [qr, qq] <;> rfl) | (simp [*, qr, qq] <;> rfl), by repeat (first | (with_reducible first | exact HB.1 | apply qb | apply qa | apply qc) | exact HB.1)⟩
     rw [if_neg c17] at H; have c17b0 : (x7_2 == 0) = false := beq_eq_false_iff_ne.mpr c17; have c17b1 : (x7_2 != 0) = true := bne_iff_ne.mpr c17; replace H := Option.bind_eq_some_iff.mp H; obtain ⟨⟨t560, t561⟩, A180, H⟩ := H
     try dsimp only at H
     have A18 := jb.mk A180; clear A180; simp only [Option.some.injEq, Prod.mk.injEq] at H; obtain ⟨rfl, rfl, rfl⟩ := H
     go_wp2_with (((with_reducible refine qo (f := 40) rfl ?_); refine qy (some 37) rfl rfl Tryz.func40 (by kernel_rfl) rfl #[.int .i64 a0, .int .i64 x7_2] rfl (by (try simp only [List.map_toArray, List.map_cons, List.map_nil]); first | done | rfl | (simp only [List.length_drop, List.length_take]; rfl)) ?_; (with_reducible refine (impl_lowest.calls k2 a0 x7_2 t560 t561 _ A18.1).mono ?_); rintro e w19 ⟨rfl, hb⟩; refine ⟨_, rfl, ?_⟩; have n0_ := jb.mk (qk (by repeat (first | (with_reducible first | exact HB.1 | apply qb | apply qa | apply qc) | exact HB.1)) hb); clear HB; have HB := n0_; clear n0_; (try clear hb); (try clear hb2); (try clear hk); (try clear hi)))
     go_ret3
     exact ⟨by first | rfl | (simp [qr, qq] <;> rfl) | (simp [*, qr, qq] <;> rfl), by repeat (first | (with_reducible first | exact HB.1 | apply qb | apply qa | apply qc) | exact HB.1)⟩

end Go.Proofs.YtfaccdafldbjcaaGreat.OFnWalkersRound
