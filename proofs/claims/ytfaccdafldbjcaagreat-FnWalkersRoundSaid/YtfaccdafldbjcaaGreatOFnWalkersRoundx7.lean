/- The law FnWalkersRound: contracts of functions, written by a program (after the kit's print). -/
import Derived.Test.YtfaccdafldbjcaaGreatOFnWalkersRoundx0
import Derived.Test.YtfaccdafldbjcaaGreatOFnWalkersRoundx1
import Derived.Test.YtfaccdafldbjcaaGreatOFnWalkersRoundx2
import Derived.Test.YtfaccdafldbjcaaGreatOFnWalkersRoundx6
namespace Go.Proofs.YtfaccdafldbjcaaGreat.OFnWalkersRound
open Go.RowKit Go.Proofs.YtfaccdafldbjcaaGreatW.PrintWords Go.Proofs.YtfaccdafldbjcaaGreatW.PrintLast Go.Proofs.YtfaccdafldbjcaaGreatW.PrintMore
attribute [local go_sem] max2_int min2_int max_two min_two max_three min_three max_four min_four   -- for this text's walks alone
set_option linter.unusedVariables false
set_option linter.unusedSimpArgs false
open List (setIfInBounds_toArray set_cons_zero set_cons_succ)

/-! ### impl_WalkersAt: function 18 -/
/-- Two neighbours change places. -/
def swpV (l : List Value) (j : Nat) : List Value := (l.set (j + 1) (l.getD j undef)).set j (l.getD (j + 1) undef)
def insJ (c : Value → Value → Int) : Nat → List Value → List Value
 | 0, l => l
 | j + 1, l => if c (l.getD (j + 1) undef) (l.getD j undef) < 0 then insJ c j (swpV l j) else l
def insI (c : Value → Value → Int) : Nat → Nat → List Value → List Value
 | 0, _, l => l
 | n + 1, i, l => insI c n (i + 1) (insJ c i l)
/-- Behind w: base's blocks as they were, the row gb holds l, w's other blocks as they were. -/
def SoW (base : Nat) (gb : Nat) (t : TypeId) (w : World) (l : List Value) (W : World) : Prop :=
 base ≤ gb ∧ Below base w W ∧ W.heap[gb]? = some (.cells l.toArray t (0, 0)) ∧ ∀ k, k < w.heap.size → k ≠ gb → W.heap[k]? = w.heap[k]?
section
variable {base gb : Nat} {t : TypeId} {w W W' : World} {l : List Value}
theorem SoW.grow (h : SoW base gb t w l W) (hb : Below W.heap.size W W') : SoW base gb t w l W' := by
 obtain ⟨h0, h1, h2, h3⟩ := h; have lt := blk_lt h2; exact ⟨h0, h1.trans (hb.mono (by omega)), qu h2 hb, fun k hk hne => (hb.block k (Nat.lt_of_lt_of_le hk h1.size)).trans (h3 k hk hne)⟩
theorem SoW.at (h : SoW base gb t w l W) (j : Nat) (hj : j < l.length) : W.cell? ⟨gb, j, none⟩ = some (l.getD j undef) := by
 rw [qh h.2.2.1 j]; simp [List.getD_eq_getElem?_getD, hj]
theorem SoW.fr (h : SoW base gb t w l W) (j : Nat) : W.frozen? ⟨gb, j, none⟩ = false := qg h.2.2.1 j
theorem SoW.set (h : SoW base gb t w l W) (j : Nat) (v : Value) : SoW base gb t w (l.set j v) (W.setCell ⟨gb, j, none⟩ v) := by
 obtain ⟨h0, h1, h2, h3⟩ := h; refine ⟨h0, h1.setCell h0 _, ?_, fun k hk hne => (Below.heap_setCell W ⟨gb, j, none⟩ v k hne).trans (h3 k hk hne)⟩; rw [blk_set h2 j v]; simp
theorem SoW.keep {a b : Addr} {x y : Value} (h : SoW base gb t w l W ∧ W.cell? a = some x ∧ W.cell? b = some y) (hb : Below W.heap.size W W') : SoW base gb t w l W' ∧ W'.cell? a = some x ∧ W'.cell? b = some y :=
 ⟨h.1.grow hb, (hb.cell (World.block_lt_of_cell? W _ h.2.1)).trans h.2.1, (hb.cell (World.block_lt_of_cell? W _ h.2.2)).trans h.2.2⟩
end
theorem swpV_length (l : List Value) (j : Nat) : (swpV l j).length = l.length := by unfold swpV; simp
theorem swpV_all (Q : Value → Prop) (l : List Value) (j : Nat) (hj : j + 1 < l.length) (h : ∀ x ∈ l, Q x) : ∀ x ∈ swpV l j, Q x := by
 intro x hx; unfold swpV at hx
 rcases List.mem_or_eq_of_mem_set hx with z | z
 ·rcases List.mem_or_eq_of_mem_set z with y | y
  ·exact h x y
  subst y; simp only [List.getD_eq_getElem?_getD, List.getElem?_eq_getElem (show j < l.length by omega), Option.getD_some]; exact h _ (List.getElem_mem _)
 subst z; simp only [List.getD_eq_getElem?_getD, List.getElem?_eq_getElem hj, Option.getD_some]; exact h _ (List.getElem_mem _)
set_option maxHeartbeats 8000000 in
set_option maxRecDepth 100000 in
theorem ins91.calls (base : Nat) (c : Value → Value → Int) (g : Nat) (lb : Array Value) (P : Value → Prop) (eg : ∀ args w, (callFunc g args).run Tryz.prog w = .ok (.enter g args) w) (w : World)
  (hp : ∀ W x y, Below base w W → P x → P y → Calls Tryz.prog g (#[x, y] ++ lb) W fun e w' => e = .returned (.int .i64 (c x y)) ∧ Below W.heap.size W w')
  (gb : Nat) (hgb : base ≤ gb) (l : List Value) (hl : l.length ≤ 1000) (hl1 : 1 ≤ l.length) (hP : ∀ x ∈ l, P x ∧ ∃ n : Int, x = .int .i64 n) (cap : Nat) (hb : w.heap[gb]? = some (.cells l.toArray 3 (0, 0))) :
  Calls Tryz.prog 99 #[.slice (some ⟨gb, 0, none⟩) l.length cap, .int .i64 0, .int .i64 l.length, .func (.func g) #[] lb] w fun e w' => e = .returned (.tuple #[]) ∧ SoW base gb 3 w (insI c (l.length - 1) 1 l) w' := by
 have HP := jb.mk hp; have S0 := jb.mk (show SoW base gb 3 w l w from ⟨hgb, Below.refl _ _, hb, fun _ _ _ => rfl⟩); have A0 := jb.mk hP; clear hp hb hP; have mixed : Tryz.prog.follows .mixedOrders = true := by kernel_rfl
 go_enter Tryz.func99, Tryz.ntmps99
 go_wp2
 go_loopg [8] (l.length) (fun g1 vi wr => ∃ (i : Nat) (lk : List Value), vi = .int .i64 i ∧ 1 ≤ i ∧ i ≤ l.length ∧ l.length - i ≤ g1 ∧ lk.length = l.length ∧ jb (∀ x ∈ lk, P x ∧ ∃ n : Int, x = .int .i64 n) ∧ jb (SoW base gb 3 w lk wr) ∧ jb (insI c (l.length - i) i lk = insI c (l.length - 1) 1 l))
 case atStart => exact ⟨1, l, by go_num, by omega, by omega, by omega, rfl, A0, S0, ⟨rfl⟩⟩
 case round =>
  clear S0 A0; obtain ⟨i, lk, rfl, hi1, hil, hg1, hlk, A1, S1, HO⟩ := hrel
  by_cases hlt : i < l.length
  ·have hltz : (i : Int) < (l.length : Int) := by omega
   go_wp2
   go_loopg [9] i (fun g2 vj wr2 => ∃ (j : Nat) (lj : List Value), vj = .int .i64 j ∧ j ≤ i ∧ j ≤ g2 ∧ lj.length = l.length ∧ jb (∀ x ∈ lj, P x ∧ ∃ n : Int, x = .int .i64 n) ∧ jb (SoW base gb 3 w lj wr2) ∧ jb (insJ c j lj = insJ c i lk))
   case atStart => exact ⟨i, lk, rfl, Nat.le_refl _, Nat.le_refl _, hlk, A1, S1, ⟨rfl⟩⟩
   case round =>
    clear S1 A1; obtain ⟨j, lj, rfl, hji, hg2, hlj, A2, S2, HI⟩ := hrel
    have OUT : insJ c i lk = lj → jb (insI c (l.length - (i + 1)) (i + 1) lj = insI c (l.length - 1) 1 l) := fun z => ⟨by
     rw [← HO.1, show l.length - i = l.length - (i + 1) + 1 by omega]; simp only [insI]; rw [z]⟩
    by_cases hj0 : 0 < j
    ·obtain ⟨jp, rfl⟩ : ∃ q, j = q + 1 := ⟨j - 1, by omega⟩; have hs : jp + 1 < lj.length := by omega
     have c1 := S2.out.at (jp + 1) (by omega); have c0 := S2.out.at jp (by omega); have a1 := A2.1 (lj.getD (jp + 1) undef) (by simp [List.getD_eq_getElem?_getD, hs]); have a0 := A2.1 (lj.getD jp undef) (by simp [List.getD_eq_getElem?_getD, show jp < lj.length by omega]); have HC : ∀ W, SoW base gb 3 w lj W → Calls Tryz.prog g (#[lj.getD (jp + 1) undef, lj.getD jp undef] ++ lb) W fun e w' => e = .returned (.int .i64 (c (lj.getD (jp + 1) undef) (lj.getD jp undef))) ∧ Below W.heap.size W w' := fun W hW => HP.1 W _ _ hW.2.1 a1.1 a0.1
     obtain ⟨x, hx⟩ : ∃ x, lj.getD (jp + 1) undef = x := ⟨_, rfl⟩; obtain ⟨y, hy⟩ : ∃ x, lj.getD jp undef = x := ⟨_, rfl⟩; rw [hx] at c1; rw [hy] at c0; have hz : ((jp + 1 : Nat) : Int) = (jp : Int) + 1 := by omega
     rw [hz]; have p1 : (0 : Int) ≤ (jp : Int) + 1 := by omega
     have b1 : (jp : Int) + 1 < (l.length : Int) := by omega
     have e1 : ((jp : Int) + 1).toNat = jp + 1 := by omega
     have r1 : IntKind.i64.wrap ((jp : Int) + 1) = (jp : Int) + 1 := by rw [IntKind.wrap_i64]; omega
     have p0 : (0 : Int) ≤ (jp : Int) := by omega
     have b0 : (jp : Int) < (l.length : Int) := by omega
     have r0 : IntKind.i64.wrap (jp : Int) = (jp : Int) := by rw [IntKind.wrap_i64]; omega
     have dj : decide ((jp : Int) + 1 > 0) = true := decide_eq_true (by omega); have dj' : (0 : Int) < (jp : Int) + 1 := by omega
     rw [hx, hy] at HC; have SK := jb.mk (show SoW base gb 3 w lj wr ∧ wr.cell? ⟨gb, jp + 1, none⟩ = some x ∧ wr.cell? ⟨gb, jp, none⟩ = some y from ⟨S2.out, c1, c0⟩); have HC1 := jb.mk (show ∀ W, (SoW base gb 3 w lj W ∧ W.cell? ⟨gb, jp + 1, none⟩ = some x ∧ W.cell? ⟨gb, jp, none⟩ = some y) → Calls Tryz.prog g (#[x, y] ++ lb) W fun e w' => e = .returned (.int .i64 (c x y)) ∧ Below W.heap.size W w' from fun W hW => HC W hW.1); clear HC c1 c0 S2 hz
     by_cases hc : c x y < 0
     ·have hd : decide (c x y < 0) = true := decide_eq_true hc; have hcc := hc; generalize c x y = cv at hc hd HC1
      go_wp2_with fail
      go_region_held3 (fun w' => SoW base gb 3 w lj w' ∧ w'.cell? ⟨gb, jp + 1, none⟩ = some x ∧ w'.cell? ⟨gb, jp, none⟩ = some y)
       (first | exact SoW.keep (by first | assumption | exact SK.out) (by first | assumption | exact qc (Below.refl _ _)))
       (first | (go_at_fn g; refine (HC1.1 _ (by assumption)).mono ?_; rintro e w' ⟨rfl, hb'⟩))
      rename_i hH
      have S3 := jb.mk hH.1; clear hH SK hb'
      rename_i w2 _
      go_wp2_with fail
      have k1 := S3.out.at (jp + 1) (by omega); have k0 := S3.out.at jp (by omega); rw [hx] at k1; rw [hy] at k0; have f1 := S3.out.fr (jp + 1); have f0 := S3.out.fr jp; have kc : (w'.setCell ⟨gb, jp + 1, none⟩ y).cell? ⟨gb, jp, none⟩ = some y := (World.cell?_setCell_other _ _ _ _ (by intro e'; simp only [Addr.mk.injEq] at e'; omega)).trans k0
      have S4 := jb.mk (show SoW base gb 3 w (swpV lj jp) ((w'.setCell ⟨gb, jp + 1, none⟩ y).setCell ⟨gb, jp, none⟩ x).drew from by
       have z := ((S3.out.set (jp + 1) y).set jp x).grow (qc (Below.refl _ _))
       rw [← hx, ← hy] at z; rw [← hx, ← hy]; exact z)
      have A4 := jb.mk (swpV_all _ lj jp hs A2.1); have I4 : jb (insJ c jp (swpV lj jp) = insJ c i lk) := ⟨by rw [← HI.1]; simp only [insJ]; rw [hx, hy, if_pos hcc]⟩; have o1 : ∃ n : Int, x = .int .i64 n := hx ▸ a1.2; have o0 : ∃ n : Int, y = .int .i64 n := hy ▸ a0.2; clear S3 A2 HI OUT HC1 hx hy a1 a0; obtain ⟨xi, rfl⟩ := o1; obtain ⟨yi, rfl⟩ := o0; clear hcc
      go_big_region_o
      clear k1 k0 kc f1 f0; generalize ((w'.setCell ⟨gb, jp + 1, none⟩ (.int .i64 yi)).setCell ⟨gb, jp, none⟩ (.int .i64 xi)).drew = w4 at S4 ⊢; clear e1
      go_wp2
      go_roundg jp
      case measure => omega
      case rel => exact ⟨jp, swpV lj jp, by first | rfl | go_num, by omega, Nat.le_refl _, by rw [swpV_length]; exact hlj, A4, S4, I4⟩
     have hd : decide (c x y < 0) = false := decide_eq_false hc; have hcc := hc; have O4 := OUT (by rw [← HI.1]; simp only [insJ]; rw [hx, hy, if_neg hc]); generalize c x y = cv at hc hd HC1
     go_wp2_with fail
     go_region_held3 (fun w' => SoW base gb 3 w lj w' ∧ w'.cell? ⟨gb, jp + 1, none⟩ = some x ∧ w'.cell? ⟨gb, jp, none⟩ = some y)
      (first | exact SoW.keep (by first | assumption | exact SK.out) (by first | assumption | exact qc (Below.refl _ _)))
      (first | (go_at_fn g; refine (HC1.1 _ (by assumption)).mono ?_; rintro e w' ⟨rfl, hb'⟩))
     rename_i hH
     have S3 := jb.mk hH.1; clear hH SK hb' HC1 OUT
     go_wp2
     go_roundg (l.length - (i + 1))
     case measure => omega
     case rel => exact ⟨i + 1, lj, by go_num, by omega, by omega, by omega, hlj, A2, S3, O4⟩
    have e : j = 0 := by omega
    subst e; have O4 := OUT HI.1.symm
    go_wp2_with fail
    go_big_region_o
    have S3 := jb.mk (S2.out.grow (qc (Below.refl _ _))); clear S2 OUT; generalize wr.drew = w2 at S3 ⊢
    go_wp2
    go_roundg (l.length - (i + 1))
    case measure => omega
    case rel => exact ⟨i + 1, lj, by go_num, by omega, by omega, by omega, hlj, A2, S3, O4⟩
  have hltz : ¬ (i : Int) < (l.length : Int) := by omega
  have e : i = l.length := by omega
  have F := HO.1; rw [e, Nat.sub_self] at F; simp only [insI] at F; subst F; have S3 := S1.out
  go_wp2
  go_end0
  exact ⟨rfl, S3⟩
set_option maxHeartbeats 8000000 in
set_option maxRecDepth 100000 in
theorem sta87.calls (base : Nat) (c : Value → Value → Int) (g : Nat) (lb : Array Value) (P : Value → Prop) (eg : ∀ args w, (callFunc g args).run Tryz.prog w = .ok (.enter g args) w) (w : World)
  (hp : ∀ W x y, Below base w W → P x → P y → Calls Tryz.prog g (#[x, y] ++ lb) W fun e w' => e = .returned (.int .i64 (c x y)) ∧ Below W.heap.size W w')
  (gb : Nat) (hgb : base ≤ gb) (l : List Value) (hl : l.length < 20) (hl1 : 1 ≤ l.length) (hP : ∀ x ∈ l, P x ∧ ∃ n : Int, x = .int .i64 n) (cap : Nat) (hb : w.heap[gb]? = some (.cells l.toArray 3 (0, 0))) :
  Calls Tryz.prog 87 #[.slice (some ⟨gb, 0, none⟩) l.length cap, .int .i64 l.length, .func (.func g) #[] lb] w fun e w' => e = .returned (.tuple #[]) ∧ SoW base gb 3 w (insI c (l.length - 1) 1 l) w' := by
 have HC := jb.mk (ins91.calls base c g lb P eg w hp gb hgb l (by omega) hl1 hP cap hb); have d1 : ¬ (20 : Int) ≤ (l.length : Int) := by omega
 have d2 : ¬ (20 : Int) < (l.length : Int) := by omega
 clear hp hP hb; generalize insI c (l.length - 1) 1 l = r at *; go_enter Tryz.func87, Tryz.ntmps87
 go_wp2
 refine wp_loop_rounds 1 ?_; rw [rounds_succ]
 go_wp2_with (go_at_call 99; refine HC.1.mono ?_; rintro e w1 ⟨rfl, hS⟩)
 have HS := jb.mk hS; clear hS; refine wp_loop_rounds 1 ?_; rw [rounds_succ]
 go_wp2
 go_end0
 exact ⟨rfl, HS.1⟩
set_option maxHeartbeats 8000000 in
set_option maxRecDepth 100000 in
theorem sort79.calls (base : Nat) (c : Value → Value → Int) (g : Nat) (lb : Array Value) (P : Value → Prop) (eg : ∀ args w, (callFunc g args).run Tryz.prog w = .ok (.enter g args) w) (w : World)
  (hp : ∀ W x y, Below base w W → P x → P y → Calls Tryz.prog g (#[x, y] ++ lb) W fun e w' => e = .returned (.int .i64 (c x y)) ∧ Below W.heap.size W w')
  (gb : Nat) (hgb : base ≤ gb) (l : List Value) (hl : l.length < 20) (hl1 : 1 ≤ l.length) (hP : ∀ x ∈ l, P x ∧ ∃ n : Int, x = .int .i64 n) (cap : Nat) (hb : w.heap[gb]? = some (.cells l.toArray 3 (0, 0))) :
  Calls Tryz.prog 75 #[.slice (some ⟨gb, 0, none⟩) l.length cap, .func (.func g) #[] lb] w fun e w' => e = .returned (.tuple #[]) ∧ SoW base gb 3 w (insI c (l.length - 1) 1 l) w' := by
 have HC := jb.mk (sta87.calls base c g lb P eg w hp gb hgb l hl hl1 hP cap hb); clear hp hP hb; generalize insI c (l.length - 1) 1 l = r at *; go_enter Tryz.func75, Tryz.ntmps75
 go_wp2_with (go_at_call 87; refine HC.1.mono ?_; rintro e w1 ⟨rfl, hS⟩)
 go_end0
 exact ⟨rfl, hS⟩
theorem keep6 {w0 W W' : World} {a1 a2 a3 a4 a5 a6 : Addr} {v1 v2 v3 v4 v5 v6 : Value} (h : Below w0.heap.size w0 W ∧ W.cell? a1 = some v1 ∧ W.cell? a2 = some v2 ∧ W.cell? a3 = some v3 ∧ W.cell? a4 = some v4 ∧ W.cell? a5 = some v5 ∧ W.cell? a6 = some v6) (hb : Below W.heap.size W W') :
  Below w0.heap.size w0 W' ∧ W'.cell? a1 = some v1 ∧ W'.cell? a2 = some v2 ∧ W'.cell? a3 = some v3 ∧ W'.cell? a4 = some v4 ∧ W'.cell? a5 = some v5 ∧ W'.cell? a6 = some v6 := by
 have kc : ∀ p v, W.cell? p = some v → W'.cell? p = some v := fun p v h => (hb.cell (World.block_lt_of_cell? W _ h)).trans h
 obtain ⟨h0, h1, h2, h3, h4, h5, h6⟩ := h; exact ⟨h0.trans (hb.mono h0.size), kc _ _ h1, kc _ _ h2, kc _ _ h3, kc _ _ h4, kc _ _ h5, kc _ _ h6⟩
set_option maxHeartbeats 8000000 in
set_option maxRecDepth 100000 in
theorem cl80 (w0 : World) (A : Option Addr) (cL : Nat) (l : List S25) (hr : Kd.C k25 w0 A l.length l) (B : Nat) (g2 : Nat) (lb2 : Array Value) (eg2 : ∀ args w, (callFunc g2 args).run Tryz.prog w = .ok (.enter g2 args) w) (cc : S25 → S25 → Int) (W : World) (hW : Below w0.heap.size w0 W)
  (hb0 : W.cell? ⟨B, 0, none⟩ = some (.slice A l.length cL)) (hb1 : W.cell? ⟨B + 1, 0, none⟩ = some (.func (.func g2) #[] lb2))
  (hcmp : ∀ W', Below W.heap.size W W' → ∀ x y : S25, Calls Tryz.prog g2 (#[.agg #[.int .i64 x.f0, .int .i64 x.f1], .agg #[.int .i64 y.f0, .int .i64 y.f1]] ++ lb2) W' fun e w' => e = .returned (.int .i64 (cc x y)) ∧ Below W'.heap.size W' w')
  (i k : Nat) (hi : i < l.length) (hk : k < l.length) :
  Calls Tryz.prog 76 #[.int .i64 i, .int .i64 k, .pointer (some ⟨B + 1, 0, none⟩), .pointer (some ⟨B, 0, none⟩)] W fun e w' => e = .returned (.int .i64 (cc (l.getD i z25) (l.getD k z25))) ∧ Below W.heap.size W w' := by
 have hu25 := Tryz.underlying25; have mixed : Tryz.prog.follows .mixedOrders = true := by kernel_rfl
 have hiz : (i : Int) < (l.length : Int) := by omega
 have hkz : (k : Int) < (l.length : Int) := by omega
 obtain ⟨ad, e0, hx0, hx1⟩ := at_T25 hr (i : Int) (by omega) hiz; obtain ⟨ad2, e2, hy0, hy1⟩ := at_T25 hr (k : Int) (by omega) hkz; cases e0; cases e2; rw [show je l (i : Int) = l.getD i z25 by unfold je; simp] at hx0 hx1; rw [show je l (k : Int) = l.getD k z25 by unfold je; simp] at hy0 hy1; simp only [Int.toNat_natCast] at hx0 hx1 hy0 hy1; have hc := fun W' hW' => hcmp W' hW' (l.getD i z25) (l.getD k z25)
 generalize cc (l.getD i z25) (l.getD k z25) = cv at *; generalize l.getD i z25 = x at *; generalize l.getD k z25 = y at *; obtain ⟨x0, x1⟩ := x; obtain ⟨y0, y1⟩ := y; simp only at hx0 hx1 hy0 hy1 hc; have kw : ∀ p v, w0.cell? p = some v → W.cell? p = some v := fun p v h => (hW.cell (World.block_lt_of_cell? w0 _ h)).trans h
 have HK := jb.mk (show Below W.heap.size W W ∧ W.cell? ⟨B, 0, none⟩ = some (.slice (some ad) l.length cL) ∧ W.cell? ⟨B + 1, 0, none⟩ = some (.func (.func g2) #[] lb2) ∧ W.cell? _ = some (.int .i64 x0) ∧ W.cell? _ = some (.int .i64 x1) ∧ W.cell? _ = some (.int .i64 y0) ∧ W.cell? _ = some (.int .i64 y1) from ⟨Below.refl _ _, hb0, hb1, kw _ _ hx0, kw _ _ hx1, kw _ _ hy0, kw _ _ hy1⟩); have HC := jb.mk hc; clear hcmp hb0 hb1 hx0 hx1 hy0 hy1 kw hr hc; go_enter Tryz.func76, Tryz.ntmps76
 go_wp2
 go_region_held3 (fun w' => Below W.heap.size W w' ∧ w'.cell? ⟨B, 0, none⟩ = some (.slice (some ad) l.length cL) ∧ w'.cell? ⟨B + 1, 0, none⟩ = some (.func (.func g2) #[] lb2) ∧ w'.cell? (ad.add (i * 2)) = some (.int .i64 x0) ∧ w'.cell? ⟨(ad.add (i * 2)).block, (ad.add (i * 2)).off + 1, none⟩ = some (.int .i64 x1) ∧ w'.cell? (ad.add (k * 2)) = some (.int .i64 y0) ∧ w'.cell? ⟨(ad.add (k * 2)).block, (ad.add (k * 2)).off + 1, none⟩ = some (.int .i64 y1))
  (first | exact keep6 (by first | assumption | exact HK.1) (by first | assumption | exact qc (Below.refl _ _)))
  (first | (go_at_fn g2; refine (HC.1 _ (And.left (by assumption))).mono ?_; rintro e w' ⟨rfl, hb'⟩))
 rename_i hH
 have HF := jb.mk hH.1; clear hH
 go_wp2
 go_ret
 exact ⟨by first | rfl | (simp; done), HF.1⟩
/-- The index that a value holds. -/
def ixV : Value → Nat
 | .int _ n => n.toNat
 | _ => 0
def ciV (cc : S25 → S25 → Int) (l : List S25) (x y : Value) : Int := cc (l.getD (ixV x) z25) (l.getD (ixV y) z25)
/-- A row of which the first k places are numbered. -/
def fillV (n k : Nat) : List Value := (List.range n).map fun i => if i < k then .int .i64 i else .int .i64 0
theorem fillV_length (n k : Nat) : (fillV n k).length = n := by simp [fillV]
theorem fillV_set (n k : Nat) (h : k < n) : (fillV n k).set k (.int .i64 k) = fillV n (k + 1) := by
 apply List.ext_getElem
 ·simp [fillV]
 intro i h1 h2; rw [List.getElem_set]; simp only [fillV, List.getElem_map, List.getElem_range]
 by_cases e : k = i
 ·subst e; simp
 rw [if_neg e]
 by_cases z : i < k
 ·rw [if_pos z, if_pos (by omega)]
 rw [if_neg z, if_neg (by omega)]
def ixP (n : Nat) (v : Value) : Prop := ∃ i : Nat, i < n ∧ v = .int .i64 i
theorem fillV_all (n : Nat) : ∀ x ∈ fillV n n, ixP n x ∧ ∃ m : Int, x = .int .i64 m := by
 intro x hx; simp only [fillV, List.mem_map, List.mem_range] at hx; obtain ⟨i, hi, rfl⟩ := hx; rw [if_pos hi]; exact ⟨⟨i, hi, rfl⟩, i, rfl⟩
theorem sw62.sort (w : World) (A : Option Addr) (cL : Nat) (l : List S25) (hr : Kd.C k25 w A l.length l) (hl : 1 ≤ l.length) (hl8 : l.length ≤ 8) (g2 : Nat) (lb2 : Array Value) (eg2 : ∀ args w, (callFunc g2 args).run Tryz.prog w = .ok (.enter g2 args) w) (cc : S25 → S25 → Int)
  (hcmp : ∀ W', Below w.heap.size w W' → ∀ x y : S25, Calls Tryz.prog g2 (#[.agg #[.int .i64 x.f0, .int .i64 x.f1], .agg #[.int .i64 y.f0, .int .i64 y.f1]] ++ lb2) W' fun e w' => e = .returned (.int .i64 (cc x y)) ∧ Below W'.heap.size W' w')
  (wm : World) (hwm : Below w.heap.size w wm) (B gb : Nat) (hB : w.heap.size ≤ B) (hg : B + 2 ≤ gb)
  (hb0 : wm.cell? ⟨B, 0, none⟩ = some (.slice A l.length cL)) (hb1 : wm.cell? ⟨B + 1, 0, none⟩ = some (.func (.func g2) #[] lb2)) (wr : World) (hS : SoW (B + 2) gb 3 wm (fillV l.length l.length) wr) :
  Calls Tryz.prog 75 #[.slice (some ⟨gb, 0, none⟩) l.length l.length, .func (.func 76) #[] #[.pointer (some ⟨B + 1, 0, none⟩), .pointer (some ⟨B, 0, none⟩)]] wr fun e w' => e = .returned (.tuple #[]) ∧ SoW (B + 2) gb 3 wr (insI (ciV cc l) (l.length - 1) 1 (fillV l.length l.length)) w' := by
 have eg : ∀ args w, (callFunc 76 args).run Tryz.prog w = .ok (.enter 76 args) w := enters_of Tryz.func76 (by kernel_rfl) rfl
 have h := sort79.calls (B + 2) (ciV cc l) 76 #[.pointer (some ⟨B + 1, 0, none⟩), .pointer (some ⟨B, 0, none⟩)] (ixP l.length) eg wr (fun W x y hW hx hy => by
  obtain ⟨i, hi, rfl⟩ := hx; obtain ⟨k, hk, rfl⟩ := hy; have h1 : Below (B + 2) wm W := hS.2.1.trans hW; have kc : ∀ j v, j < 2 → wm.cell? ⟨B + j, 0, none⟩ = some v → W.cell? ⟨B + j, 0, none⟩ = some v := fun j v hj h => (h1.cell (p := ⟨B + j, 0, none⟩) (by show B + j < B + 2; omega)).trans h
  have h2 : Below w.heap.size w W := hwm.trans (h1.mono (by omega)); have := cl80 w A cL l hr B g2 lb2 eg2 cc W h2 (kc 0 _ (by omega) hb0) (kc 1 _ (by omega) hb1) (fun W' hW' => hcmp W' (h2.trans (hW'.mono h2.size))) i k hi hk
  simpa [ciV, ixV] using this) gb hg (fillV l.length l.length) (by rw [fillV_length]; omega) (by rw [fillV_length]; exact hl) (fillV_all l.length) l.length hS.2.2.1
 rw [fillV_length] at h; exact h
theorem sw62.three (w : World) (v0 v1 : Value) (t0 t1 : TypeId) (n : Nat) : Below w.heap.size w (((w.alloc (.cells #[v0] t0)).alloc (.cells #[v1] t1)).alloc (.cells (madeCells #[.int .i64 0] n) 3)) ∧ (((w.alloc (.cells #[v0] t0)).alloc (.cells #[v1] t1)).alloc (.cells (madeCells #[.int .i64 0] n) 3)).cell? ⟨w.heap.size, 0, none⟩ = some v0 ∧ (((w.alloc (.cells #[v0] t0)).alloc (.cells #[v1] t1)).alloc (.cells (madeCells #[.int .i64 0] n) 3)).cell? ⟨w.heap.size + 1, 0, none⟩ = some v1 ∧ SoW (w.heap.size + 2) (w.heap.size + 2) 3 (((w.alloc (.cells #[v0] t0)).alloc (.cells #[v1] t1)).alloc (.cells (madeCells #[.int .i64 0] n) 3)) (fillV n 0) (((w.alloc (.cells #[v0] t0)).alloc (.cells #[v1] t1)).alloc (.cells (madeCells #[.int .i64 0] n) 3)) := by
 refine ⟨qb (qb (qb (Below.refl _ _) _) _) _, ?_, ?_, Nat.le_refl _, Below.refl _ _, ?_, fun _ _ _ => rfl⟩
 ·rw [World.cell?_alloc_lt _ _ _ (by simp [World.size_alloc]; omega), World.cell?_alloc2_first]; rfl
 ·rw [World.cell?_alloc_lt _ _ _ (by simp [World.size_alloc]), World.cell?_alloc2_new]; rfl
 have h := heap_alloc_new ((w.alloc (.cells #[v0] t0)).alloc (.cells #[v1] t1)) (.cells (madeCells #[.int .i64 0] n) 3); rw [World.size_alloc, World.size_alloc] at h; have e : madeCells #[.int .i64 0] n = (fillV n 0).toArray := by
  apply Array.ext
  ·simp [madeCells, fillV_length]
  intro i h1 h2; simp [madeCells, fillV, Nat.mod_one]
 rw [← e]; exact h
set_option maxHeartbeats 8000000 in
set_option maxRecDepth 100000 in
theorem sw62.calls (w : World) (A : Option Addr) (cL : Nat) (l : List S25) (hr : Kd.C k25 w A l.length l) (hl : 1 ≤ l.length) (hl8 : l.length ≤ 8) (g2 : Nat) (lb2 : Array Value) (eg2 : ∀ args w, (callFunc g2 args).run Tryz.prog w = .ok (.enter g2 args) w) (cc : S25 → S25 → Int)
  (hcmp : ∀ W', Below w.heap.size w W' → ∀ x y : S25, Calls Tryz.prog g2 (#[.agg #[.int .i64 x.f0, .int .i64 x.f1], .agg #[.int .i64 y.f0, .int .i64 y.f1]] ++ lb2) W' fun e w' => e = .returned (.int .i64 (cc x y)) ∧ Below W'.heap.size W' w') :
  Calls Tryz.prog 51 #[.slice A l.length cL, .func (.func g2) #[] lb2] w fun e w' => e = .returned (.slice (some ⟨w.heap.size + 2, 0, none⟩) l.length l.length) ∧ w'.heap[w.heap.size + 2]? = some (.cells (insI (ciV cc l) (l.length - 1) 1 (fillV l.length l.length)).toArray 3 (0, 0)) ∧ Below w.heap.size w w' := by
 have HC := jb.mk (sw62.sort w A cL l hr hl hl8 g2 lb2 eg2 cc hcmp); clear hcmp hr eg2; have hmk := print_make (P := Tryz.prog) 35 3 .i64 8 Tryz.underlying35 (by kernel_rfl) (by omega) l.length (by omega); generalize insI (ciV cc l) (l.length - 1) 1 (fillV l.length l.length) = r at *; go_enter Tryz.func51, Tryz.ntmps51
 go_wp2
 have T := sw62.three w (.slice A l.length cL) (.func (.func g2) #[] lb2) 40 75 l.length; generalize ((w.alloc (.cells #[.slice A l.length cL] 40)).alloc (.cells #[.func (.func g2) #[] lb2] 75)).alloc (.cells (madeCells #[.int .i64 0] l.length) 3) = wm at T ⊢; obtain ⟨t1, t2, t3, t4⟩ := T; have HC2 := jb.mk (HC.1 wm t1 w.heap.size (w.heap.size + 2) (Nat.le_refl _) (Nat.le_refl _) t2 t3); have S0 := jb.mk t4; have T1 := jb.mk t1; clear HC t1 t2 t3 t4 hmk; rw [show w.heap.size + 1 + 1 = w.heap.size + 2 by omega]; obtain ⟨B, hB⟩ : ∃ q, w.heap.size = q := ⟨_, rfl⟩; rw [hB] at HC2 S0 ⊢
 go_loopg [12] l.length (fun gg v12 wr => ∃ kk : Nat, v12 = .int .i64 kk ∧ kk ≤ l.length ∧ l.length - kk ≤ gg ∧ jb (SoW (B + 2) (B + 2) 3 wm (fillV l.length kk) wr))
 case atStart => exact ⟨0, by go_num, by omega, by omega, S0⟩
 case round =>
  clear S0; obtain ⟨kk, rfl, hkk, hgg, S1⟩ := hrel
  by_cases hlt : kk < l.length
  ·have hltz : (kk : Int) < (l.length : Int) := by omega
   have c0 := S1.out.at kk (by rw [fillV_length]; exact hlt); have f0 := S1.out.fr kk; have S2 := jb.mk (fillV_set l.length kk hlt ▸ S1.out.set kk (.int .i64 kk)); clear S1 HC2
   go_wp2
   go_roundg (l.length - (kk + 1))
   case measure => omega
   case rel => exact ⟨kk + 1, by go_num, by omega, by omega, S2⟩
  have hltz : ¬ (kk : Int) < (l.length : Int) := by omega
  have e : kk = l.length := by omega
  have HS := jb.mk (e ▸ S1.out); have HC3 := jb.mk (HC2.1 wr HS.1); clear S1 HC2
  go_wp2_with (go_at_call 75; refine HC3.1.mono ?_; rintro e w1 ⟨rfl, hS⟩)
  have HQ := jb.mk hS; clear hS
  go_wp2
  go_ret
  refine ⟨by rw [hB]; rfl, by rw [hB]; exact HQ.1.2.2.1, ?_⟩; exact T1.out.trans ((HS.1.2.1.trans HQ.1.2.1).mono (by omega))

def cmp3 (a b : Int) : Int := if a < b then -1 else if a > b then 1 else 0
theorem cmp3_is (a b : Int) : cmp_Compare_int.f a b = some (cmp3 a b) := by
 unfold cmp_Compare_int.f cmp_isNaN_int.f cmp3; simp only [bne_self_eq_false, Option.bind_some, Bool.false_eq_true, if_false]
 split
 ·rfl
 split <;> rfl
def plV (num den : Int) (x : S25) : Int := wrap64 (wrap64 (x.f0 * den) + wrap64 (x.f1 * num))
theorem two33 (W : World) (a b c d : Int) (v1 v2 : Value) (p1 p2 : Addr) (h1 : W.cell? p1 = some v1) (h2 : W.cell? p2 = some v2) :
  Below W.heap.size W ((W.alloc (.cells #[.int .i64 a, .int .i64 b] 25)).alloc (.cells #[.int .i64 c, .int .i64 d] 25)) ∧ ((W.alloc (.cells #[.int .i64 a, .int .i64 b] 25)).alloc (.cells #[.int .i64 c, .int .i64 d] 25)).cell? p1 = some v1 ∧ ((W.alloc (.cells #[.int .i64 a, .int .i64 b] 25)).alloc (.cells #[.int .i64 c, .int .i64 d] 25)).cell? p2 = some v2 ∧
  ((W.alloc (.cells #[.int .i64 a, .int .i64 b] 25)).alloc (.cells #[.int .i64 c, .int .i64 d] 25)).cell? ⟨W.heap.size, 0, none⟩ = some (.int .i64 a) ∧ ((W.alloc (.cells #[.int .i64 a, .int .i64 b] 25)).alloc (.cells #[.int .i64 c, .int .i64 d] 25)).cell? ⟨W.heap.size, 1, none⟩ = some (.int .i64 b) ∧ ((W.alloc (.cells #[.int .i64 a, .int .i64 b] 25)).alloc (.cells #[.int .i64 c, .int .i64 d] 25)).cell? ⟨W.heap.size + 1, 0, none⟩ = some (.int .i64 c) ∧ ((W.alloc (.cells #[.int .i64 a, .int .i64 b] 25)).alloc (.cells #[.int .i64 c, .int .i64 d] 25)).cell? ⟨W.heap.size + 1, 1, none⟩ = some (.int .i64 d) := by
 have hb := qb (qb (Below.refl W.heap.size W) (.cells #[.int .i64 a, .int .i64 b] 25)) (.cells #[.int .i64 c, .int .i64 d] 25); refine ⟨hb, (hb.cell (World.block_lt_of_cell? W _ h1)).trans h1, (hb.cell (World.block_lt_of_cell? W _ h2)).trans h2, ?_, ?_, ?_, ?_⟩
 ·rw [World.cell?_alloc2_first]; rfl
 ·rw [World.cell?_alloc2_first]; rfl
 ·rw [World.cell?_alloc2_new]; rfl
 rw [World.cell?_alloc2_new]; rfl
set_option maxHeartbeats 8000000 in
set_option maxRecDepth 100000 in
theorem cl63 (num den : Int) (Bn : Nat) (W : World) (h0 : W.cell? ⟨Bn, 0, none⟩ = some (.int .i64 num)) (h1 : W.cell? ⟨Bn + 1, 0, none⟩ = some (.int .i64 den)) (x y : S25) :
  Calls Tryz.prog 52 (#[.agg #[.int .i64 x.f0, .int .i64 x.f1], .agg #[.int .i64 y.f0, .int .i64 y.f1]] ++ #[.pointer (some ⟨Bn, 0, none⟩), .pointer (some ⟨Bn + 1, 0, none⟩)]) W fun e w' => e = .returned (.int .i64 (cmp3 (plV num den x) (plV num den y))) ∧ Below W.heap.size W w' := by
 have hu25 := Tryz.underlying25; have mixed : Tryz.prog.follows .mixedOrders = true := by kernel_rfl
 obtain ⟨a, b⟩ := x; obtain ⟨c, d⟩ := y; have HK0 := two33 W a b c d _ _ _ _ h0 h1; have hp1 := jb.mk (show impl_placeAt.f a b num den = some (plV num den ⟨a, b⟩) from rfl); have hp2 := jb.mk (show impl_placeAt.f c d num den = some (plV num den ⟨c, d⟩) from rfl); have hc3 := jb.mk (cmp3_is (plV num den ⟨a, b⟩) (plV num den ⟨c, d⟩)); generalize cmp3 (plV num den ⟨a, b⟩) (plV num den ⟨c, d⟩) = cv at *; generalize plV num den ⟨a, b⟩ = p1 at *; generalize plV num den ⟨c, d⟩ = p2 at *; clear h0 h1
 show Calls Tryz.prog 52 #[.agg #[.int .i64 a, .int .i64 b], .agg #[.int .i64 c, .int .i64 d], .pointer (some ⟨Bn, 0, none⟩), .pointer (some ⟨Bn + 1, 0, none⟩)] W _
 go_enter Tryz.func52, Tryz.ntmps52
 go_wp2
 generalize ((W.alloc (.cells #[.int .i64 a, .int .i64 b] 25)).alloc (.cells #[.int .i64 c, .int .i64 d] 25)) = W2 at HK0 ⊢; have HK := jb.mk HK0; clear HK0
 go_region_held3 (fun w' => Below W.heap.size W w' ∧ w'.cell? ⟨Bn, 0, none⟩ = some (.int .i64 num) ∧ w'.cell? ⟨Bn + 1, 0, none⟩ = some (.int .i64 den) ∧ w'.cell? ⟨W.heap.size, 0, none⟩ = some (.int .i64 a) ∧ w'.cell? ⟨W.heap.size, 1, none⟩ = some (.int .i64 b) ∧ w'.cell? ⟨W.heap.size + 1, 0, none⟩ = some (.int .i64 c) ∧ w'.cell? ⟨W.heap.size + 1, 1, none⟩ = some (.int .i64 d))
  (first | exact keep6 (by first | assumption | exact HK.1) (by first | assumption | exact qc (Below.refl _ _)))
  (first | (go_at_call 54; (with_reducible refine (impl_placeAt.calls a b num den _ _ hp1.out).mono ?_); rintro e w' ⟨rfl, hb'⟩) | (go_at_call 54; (with_reducible refine (impl_placeAt.calls c d num den _ _ hp2.out).mono ?_); rintro e w' ⟨rfl, hb'⟩) | (go_at_call 53; (with_reducible refine (cmp_Compare_int.calls p1 p2 _ _ hc3.out).mono ?_); rintro e w' ⟨rfl, hd⟩; have hb' := Drawn0.below hd))
 rename_i hH
 have HF := jb.mk hH.1; clear hH hd hb'
 go_wp2
 go_ret
 exact ⟨by first | rfl | (simp; done), HF.1⟩
def isI (v : Value) : Prop := ∃ m : Int, v = .int .i64 m
theorem insJ_all (c : Value → Value → Int) (Q : Value → Prop) : ∀ (j : Nat) (l : List Value), j < l.length → (∀ x ∈ l, Q x) → (insJ c j l).length = l.length ∧ ∀ x ∈ insJ c j l, Q x := by
 intro j; induction j with
 | zero => intro l _ h; exact ⟨rfl, h⟩
 | succ j ih =>
  intro l hj h; simp only [insJ]
  split
  ·have := ih (swpV l j) (by rw [swpV_length]; omega) (swpV_all Q l j hj h); exact ⟨this.1.trans (swpV_length l j), this.2⟩
  exact ⟨rfl, h⟩
theorem insI_all (c : Value → Value → Int) (Q : Value → Prop) : ∀ (m i : Nat) (l : List Value), i + m ≤ l.length → (∀ x ∈ l, Q x) → (insI c m i l).length = l.length ∧ ∀ x ∈ insI c m i l, Q x := by
 intro m; induction m with
 | zero => intro i l _ h; exact ⟨rfl, h⟩
 | succ m ih =>
  intro i l hi h; have := insJ_all c Q i l (by omega) h; have h2 := ih (i + 1) (insJ c i l) (by omega) this.2; simp only [insI]; exact ⟨h2.1.trans this.1, h2.2⟩
/-- The number that a value holds. -/
def nuV : Value → Int
 | .int _ n => n
 | _ => 0
def orderV (cc : S25 → S25 → Int) (l : List S25) : List Int := (insI (ciV cc l) (l.length - 1) 1 (fillV l.length l.length)).map nuV
theorem orderV_is (cc : S25 → S25 → Int) (l : List S25) (hl : 1 ≤ l.length) : encs (Value.int .i64) (orderV cc l) = insI (ciV cc l) (l.length - 1) 1 (fillV l.length l.length) ∧ (orderV cc l).length = l.length := by
 have h := insI_all (ciV cc l) isI (l.length - 1) 1 (fillV l.length l.length) (by rw [fillV_length]; omega) (fun x hx => (fillV_all l.length x hx).2); unfold orderV encs; refine ⟨?_, by rw [List.length_map, h.1, fillV_length]⟩; rw [List.map_map]; have e : ∀ (r : List Value), (∀ x ∈ r, isI x) → r.map (Value.int .i64 ∘ nuV) = r := by
  intro r; induction r with
  | nil => intro _; rfl
  | cons x xs ih =>
   intro hx; obtain ⟨m, rfl⟩ := hx x (by simp); rw [List.map_cons, ih (fun y hy => hx y (by simp [hy]))]; rfl
 exact e _ h.2
theorem orderV_R (cc : S25 → S25 → Int) (l : List S25) (hl : 1 ≤ l.length) (hl8 : l.length ≤ 8) (w' : World) (base g : Nat) (hg : base ≤ g) (h : w'.heap[g]? = some (.cells (insI (ciV cc l) (l.length - 1) 1 (fillV l.length l.length)).toArray 3 (0, 0))) :
  Kd.R (Kd.int .i64) 3 w' base (fun _ => True) (.slice (some ⟨g, 0, none⟩) l.length l.length) (orderV cc l) := by
 obtain ⟨e1, e2⟩ := orderV_is cc l hl; refine Kd.R_of_own ?_ (fun _ _ => trivial); rw [e1, e2]; have e3 : (insI (ciV cc l) (l.length - 1) 1 (fillV l.length l.length)).length = l.length := by rw [← e1]; simp [encs, e2]
 refine ⟨by rw [e3]; omega, .inr ⟨g, l.length, _, rfl, hg, h, Nat.le_refl _, by simp [maxLen]; omega, by simp [e3], ?_⟩⟩; simp only [Nat.mul_one]; exact List.take_of_length_le (by rw [e3]; exact Nat.le_refl _)
def impl_WalkersAt.f (l0 : List S25) (a1 a2 : Int) : Option (List Int × Bool) := (impl_AreWalkers.f l0).bind fun t => if t = true then ((impl_isTime.f a1 a2).bind fun u => if u = true then some (orderV (fun x y => cmp3 (plV a1 a2 x) (plV a1 a2 y)) l0, true) else some ([], false)) else some ([], false)
theorem impl_WalkersAt.two (w : World) (v0 v1 : Value) (t0 t1 : TypeId) : Below w.heap.size w ((w.alloc (.cells #[v0] t0)).alloc (.cells #[v1] t1)) ∧ ((w.alloc (.cells #[v0] t0)).alloc (.cells #[v1] t1)).cell? ⟨w.heap.size, 0, none⟩ = some v0 ∧ ((w.alloc (.cells #[v0] t0)).alloc (.cells #[v1] t1)).cell? ⟨w.heap.size + 1, 0, none⟩ = some v1 := by
 refine ⟨qb (qb (Below.refl _ _) _) _, ?_, ?_⟩
 ·rw [World.cell?_alloc2_first]; rfl
 rw [World.cell?_alloc2_new]; rfl
set_option maxHeartbeats 8000000 in
set_option maxRecDepth 100000 in
theorem impl_WalkersAt.calls (A0 : Option Addr) (c0 : Nat) (l0 : List (S25)) (a1 a2 : Int) (r1 : List Int) (r2 : Bool) (w : World) (hr0 : Kd.C k25 w A0 l0.length l0) (hc0 : l0.length ≤ c0) (h : impl_WalkersAt.f l0 a1 a2 = some (r1, r2)) :
  Calls Tryz.prog 18 #[.slice A0 l0.length c0, .int .i64 a1, .int .i64 a2] w fun e w' => ∃ v0_ : Value, e = .returned (.tuple #[v0_, .bool r2]) ∧ Kd.R (Kd.int .i64) 3 w' w.heap.size (fun _ => True) v0_ r1 ∧ Below w.heap.size w w' := by
 unfold impl_WalkersAt.f at h; obtain ⟨t, ht, h⟩ := Option.bind_eq_some_iff.mp h; have T := impl_WalkersAt.two w (.int .i64 a1) (.int .i64 a2) 3 3; have hcA : ∀ W, Below w.heap.size w W → Calls Tryz.prog 49 #[.slice A0 l0.length c0] W fun e w' => e = .returned (.bool t) ∧ Below W.heap.size W w' := fun W hW => impl_AreWalkers.calls A0 c0 l0 t W (Kd.C_below hr0 hW) hc0 ht
 cases t with
 | false =>
  rw [if_neg (by decide)] at h; simp only [Option.some.injEq, Prod.mk.injEq] at h; obtain ⟨rfl, rfl⟩ := h; have HA := jb.mk (hcA _ T.1); have T1 := jb.mk T.1; clear hcA ht hr0 T; go_enter Tryz.func18, Tryz.ntmps18
  go_wp2_with (go_at_call 49; refine HA.1.mono ?_; rintro e w' ⟨rfl, hb'⟩)
  go_ret2
  exact ⟨_, rfl, Kd.R_nil _ _ _ _ _, T1.out.trans (hb'.mono T1.out.size)⟩
 | true =>
  rw [if_pos rfl] at h; obtain ⟨u, hu, h⟩ := Option.bind_eq_some_iff.mp h; have hT : ∀ W, Calls Tryz.prog 50 #[.int .i64 a1, .int .i64 a2] W fun e w' => e = .returned (.bool u) ∧ Below W.heap.size W w' := fun W => (impl_isTime.calls a1 a2 u W hu).mono fun e w' ⟨he, hd⟩ => ⟨he, hd.below⟩
  have HA := jb.mk (hcA _ T.1); have HT := jb.mk hT; have TT := jb.mk T; cases u with
  | false =>
   rw [if_neg (by decide)] at h; simp only [Option.some.injEq, Prod.mk.injEq] at h; obtain ⟨rfl, rfl⟩ := h; clear hcA ht hr0 T hT hu; go_enter Tryz.func18, Tryz.ntmps18
   go_wp2_with (first | (go_at_call 49; refine HA.1.mono ?_; rintro e w1 ⟨rfl, hb1⟩; have k0 := (hb1.cell (World.block_lt_of_cell? _ _ TT.out.2.1)).trans TT.out.2.1; have k1 := (hb1.cell (World.block_lt_of_cell? _ _ TT.out.2.2)).trans TT.out.2.2) | (go_at_call 50; refine (HT.1 _).mono ?_; rintro e w2 ⟨rfl, hb2⟩))
   go_ret2
   exact ⟨_, rfl, Kd.R_nil _ _ _ _ _, (TT.out.1.trans (hb1.mono TT.out.1.size)).trans (hb2.mono (TT.out.1.trans (hb1.mono TT.out.1.size)).size)⟩
  | true =>
   rw [if_pos rfl] at h; simp only [Option.some.injEq, Prod.mk.injEq] at h; obtain ⟨rfl, rfl⟩ := h; have hn : 1 ≤ l0.length ∧ l0.length ≤ 8 := by
    unfold impl_AreWalkers.f at ht
    split at ht
    ·simp only [Option.some.injEq, Bool.and_eq_true, decide_eq_true_eq] at ht; omega
    simp at ht
   have eg63 : ∀ args w, (callFunc 52 args).run Tryz.prog w = .ok (.enter 52 args) w := enters_of Tryz.func52 (by kernel_rfl) rfl
   have H62 := jb.mk (show ∀ W : World, Below w.heap.size w W → W.cell? ⟨w.heap.size, 0, none⟩ = some (.int .i64 a1) → W.cell? ⟨w.heap.size + 1, 0, none⟩ = some (.int .i64 a2) → Calls Tryz.prog 51 #[.slice A0 l0.length c0, .func (.func 52) #[] #[.pointer (some ⟨w.heap.size, 0, none⟩), .pointer (some ⟨w.heap.size + 1, 0, none⟩)]] W fun e w' => ∃ v, e = .returned v ∧ Kd.R (Kd.int .i64) 3 w' w.heap.size (fun _ => True) v (orderV (fun x y => cmp3 (plV a1 a2 x) (plV a1 a2 y)) l0) ∧ Below w.heap.size w w' from fun W hW h0 h1 =>
    (sw62.calls W A0 c0 l0 (Kd.C_below hr0 hW) hn.1 hn.2 52 _ eg63 (fun x y => cmp3 (plV a1 a2 x) (plV a1 a2 y)) (fun W' hW' x y => cl63 a1 a2 w.heap.size W' ((hW'.cell (World.block_lt_of_cell? _ _ h0)).trans h0) ((hW'.cell (World.block_lt_of_cell? _ _ h1)).trans h1) x y)).mono fun e w' ⟨he, hh, hb⟩ => ⟨_, he, orderV_R _ l0 hn.1 hn.2 w' w.heap.size (W.heap.size + 2) (by have := hW.size; omega) hh, hW.trans (hb.mono hW.size)⟩)
   clear hcA ht hr0 T hT hu eg63; generalize orderV (fun x y => cmp3 (plV a1 a2 x) (plV a1 a2 y)) l0 = r at *; go_enter Tryz.func18, Tryz.ntmps18
   go_wp2_with (first | (go_at_call 49; refine HA.1.mono ?_; rintro e w1 ⟨rfl, hb1⟩; have k0 := (hb1.cell (World.block_lt_of_cell? _ _ TT.out.2.1)).trans TT.out.2.1; have k1 := (hb1.cell (World.block_lt_of_cell? _ _ TT.out.2.2)).trans TT.out.2.2) | (go_at_call 50; refine (HT.1 _).mono ?_; rintro e w2 ⟨rfl, hb2⟩) | (go_at_call 51; refine (H62.1 _ ((TT.out.1.trans (hb1.mono TT.out.1.size)).trans (hb2.mono (TT.out.1.trans (hb1.mono TT.out.1.size)).size)) ((hb2.cell (World.block_lt_of_cell? _ _ k0)).trans k0) ((hb2.cell (World.block_lt_of_cell? _ _ k1)).trans k1)).mono ?_; rintro e w3 ⟨v, rfl, hR, hb3⟩))
   go_ret2
   exact ⟨_, rfl, hR, hb3⟩

/-! ### spec_meAll: function 55 -/
def spec_meAll.l0 : Nat → List (S25) → Int → Int → Option (Bool)
 | 0, _, _, _ => none
 | k + 1, x9, x10, x11 => if x11 < x10 then (if 0 ≤ x11 then (if x11 < (x9.length : Int) then ((spec_meGood.f ((je x9 x11).f0) ((je x9 x11).f1)).bind fun t412 => (if t412 = true then (spec_meAll.l0 k x9 x10 (wrap64 (x11 + 1))) else (some false))) else (none)) else (none)) else (some true)
def spec_meAll.f (k : Nat) (l0 : List (S25)) : Option (Bool) := (spec_l1In.f (l0.length : Int) 1 8).bind fun t409 => (if t409 = true then (spec_meAll.l0 k l0 (l0.length : Int) 0) else (some false))
set_option maxHeartbeats 8000000 in
set_option maxRecDepth 100000 in
theorem spec_meAll.calls (k : Nat) (A0 : Option Addr) (c0 : Nat) (l0 : List (S25)) (r : Bool) (w : World) (hr0 : Kd.C k25 w A0 l0.length l0) (hc0 : l0.length ≤ c0) (h : spec_meAll.f k l0 = some r) :
  Calls Tryz.prog 55 #[.slice A0 l0.length c0] w fun e w' => e = .returned (.bool r) ∧ Below w.heap.size w w' := by
 have hu25 := Tryz.underlying25; have HR0 := jb.mk hr0; have HC0 := jb.mk hc0; clear hr0 hc0; have HB := jb.mk (Below.refl w.heap.size w); have H : ((spec_l1In.f (l0.length : Int) 1 8).bind fun t409 => (if t409 = true then (spec_meAll.l0 k l0 (l0.length : Int) 0) else (some false))) = some r := h; clear h; replace H := Option.bind_eq_some_iff.mp H; obtain ⟨t409, A20, H⟩ := H
 try dsimp only at H
 have A2 := jb.mk A20; clear A20
 by_cases c3 : t409 = true
 ·subst c3; rw [if_pos rfl] at H; have H' := jb.mk H; clear H; go_enter Tryz.func55, Tryz.ntmps55
  go_wp2_with (((with_reducible refine qo (f := 46) rfl ?_); refine qy (some 7) rfl rfl Tryz.func46 (by kernel_rfl) rfl #[.int .i64 (l0.length : Int), .int .i64 1, .int .i64 8] rfl (by (try simp only [List.map_toArray, List.map_cons, List.map_nil]); first | done | rfl | (simp only [List.length_drop, List.length_take]; rfl)) ?_; (with_reducible refine (spec_l1In.calls (l0.length : Int) 1 8 true _ A2.1).mono ?_); rintro e w' ⟨rfl, ⟨nd, rfl⟩⟩; refine ⟨_, rfl, ?_⟩))
  go_loopg [11] k (fun kq v11 w' => ∃ (x11_1 : Int), v11 = .int .i64 x11_1 ∧ jb (spec_meAll.l0 kq l0 (l0.length : Int) x11_1 = some r) ∧ jb (kq ≤ k) ∧ jb (Below w.heap.size w w'))
  case atStart => exact ⟨(0), (by first | rfl | (simp; done) | (simp [*]; done)), H', ⟨Nat.le_refl _⟩, ⟨by repeat (first | (with_reducible first | exact HB.1 | apply qb | apply qa | apply qc) | exact HB.1)⟩⟩
  case round =>
   clear H'; (try clear p2); (try clear c3); obtain ⟨x11_1, rfl, HA, HK1, HB⟩ := hrel; cases gk with
   | zero => exact absurd HA.1 (by simp [spec_meAll.l0])
   | succ k1 =>
    have H := HA.1; clear HA; simp only [spec_meAll.l0] at H
    by_cases c4 : x11_1 < (l0.length : Int)
    ·rw [if_pos c4] at H; have c4b0 : decide (x11_1 < (l0.length : Int)) = true := decide_eq_true c4; clear c4
     by_cases c5 : 0 ≤ x11_1
     ·rw [if_pos c5] at H; have c5b0 : decide (0 ≤ x11_1) = true := decide_eq_true c5; clear c5
      by_cases c6 : x11_1 < (l0.length : Int)
      ·rw [if_pos c6] at H; have c6b0 : decide (x11_1 < (l0.length : Int)) = true := decide_eq_true c6; clear c6; replace H := Option.bind_eq_some_iff.mp H; obtain ⟨t412, A70, H⟩ := H
       try dsimp only at H
       have A7 := jb.mk A70; clear A70
       by_cases c8 : t412 = true
       ·subst c8; rw [if_pos rfl] at H; have H' := jb.mk H; clear H; have p410 : 0 ≤ (x11_1 : Int) := of_decide_eq_true (by first | (with_reducible assumption) | assumption); have q410 : x11_1 < (l0.length : Int) := of_decide_eq_true (by first | (with_reducible assumption) | assumption); obtain ⟨ad410, e410, hx410_0, hx410_1⟩ := at_T25 HR0.1 x11_1 p410 q410; cases e410; replace hx410_0 := (HB.1.cell (World.block_lt_of_cell? w _ hx410_0)).trans hx410_0; replace hx410_1 := (HB.1.cell (World.block_lt_of_cell? w _ hx410_1)).trans hx410_1; replace p410 := eq_true p410; replace q410 := eq_true q410
        go_wp2_with (first | ((with_reducible refine qv (N := 4) rfl ?_); refine qw ?hg (N := 4) ?hd (cs := #[.int .i64 0, .int .i64 0]) (t := 25) ?hr ?_; (case hd => rfl); (case hg => rfl); (case hr => first | (go_simp; done) | (go_simp; rfl)); intro gb411 hg w9 hbox hb; have n0_ := jb.mk (qk (by repeat (first | (with_reducible first | exact HB.1 | apply qb | apply qa | apply qc) | exact HB.1)) hb); have n1_ := jb.mk (hbox); have n2_ := jb.mk ((by rw [hg]; exact (ql (by repeat (first | (with_reducible first | exact HB.1 | apply qb | apply qa | apply qc) | exact HB.1))) : w.heap.size ≤ gb411)); have n3_ := jb.mk ((by rw [hg]; exact (ql (by repeat (first | (with_reducible first | exact HB.1 | apply qb | apply qa | apply qc) | exact HB.1))) : w.heap.size ≤ gb411)); clear HB; have HB := n0_; have BK411 := n1_; have GW411 := n2_; have GE411 := n3_; clear n0_ n1_ n2_ n3_; clear hb hbox hg; have hcz10_0 : w9.cell? ⟨gb411, 0, none⟩ = some (.int .i64 0) := (qh BK411.1 0).trans rfl; have hcz10_1 : w9.cell? ⟨gb411, 1, none⟩ = some (.int .i64 0) := (qh BK411.1 1).trans rfl; have hfz10_0 := qg BK411.1 0; have hfz10_1 := qg BK411.1 1) | ((with_reducible refine qo (f := 69) rfl ?_); refine qy (some 16) rfl rfl Tryz.func69 (by kernel_rfl) rfl #[.agg #[.int .i64 ((je l0 x11_1).f0), .int .i64 ((je l0 x11_1).f1)]] rfl (by (try simp only [List.map_toArray, List.map_cons, List.map_nil]); first | done | rfl | (simp only [List.length_drop, List.length_take]; rfl)) ?_; (with_reducible refine (spec_meGood.calls ((je l0 x11_1).f0) ((je l0 x11_1).f1) true _ A7.1).mono ?_); rintro e w11 ⟨rfl, hb⟩; refine ⟨_, rfl, ?_⟩; have n0_ := jb.mk (qu (g := gb411) (o := .cells #[.int .i64 ((je l0 x11_1).f0), .int .i64 ((je l0 x11_1).f1)] 25 (0, 0)) (by (with_reducible repeat (first | refine qf ?_ _ | refine qi ?_ | refine qe ?_ _)); refine blk_put (cs := #[.int .i64 ((je l0 x11_1).f0), .int .i64 0]) ?_ 1 _ rfl; (with_reducible repeat (first | refine qf ?_ _ | refine qi ?_ | refine qe ?_ _)); refine blk_put (cs := #[.int .i64 0, .int .i64 0]) ?_ 0 _ rfl; (with_reducible repeat (first | refine qf ?_ _ | refine qi ?_ | refine qe ?_ _)); exact BK411.1) hb); have n1_ := jb.mk (qk (by repeat (first | (with_reducible first | exact HB.1 | apply qb | apply qa | apply qc | refine qd ?_ GE411.out) | exact HB.1)) hb); clear BK411; clear HB; have BK411 := n0_; have HB := n1_; clear n0_ n1_; (try clear hb); (try clear hb2); (try clear hk); (try clear hi)))
        go_roundg k1
        case measure => have := HK1.1; omega
        case rel => exact ⟨(wrap64 (x11_1 + 1)), (by first | rfl | (simp; done) | (simp [*]; done)), H', ⟨by have := HK1.1; omega⟩, ⟨by repeat (first | (with_reducible first | exact HB.1 | apply qb | apply qa | apply qc | refine qd ?_ GE411.out) | exact HB.1)⟩⟩
       replace c8 := Bool.eq_false_iff.mpr c8; subst c8; rw [if_neg (show ¬ (false = true) by decide)] at H; obtain rfl := Option.some.inj H; have p410 : 0 ≤ (x11_1 : Int) := of_decide_eq_true (by first | (with_reducible assumption) | assumption); have q410 : x11_1 < (l0.length : Int) := of_decide_eq_true (by first | (with_reducible assumption) | assumption); obtain ⟨ad410, e410, hx410_0, hx410_1⟩ := at_T25 HR0.1 x11_1 p410 q410; cases e410; replace hx410_0 := (HB.1.cell (World.block_lt_of_cell? w _ hx410_0)).trans hx410_0; replace hx410_1 := (HB.1.cell (World.block_lt_of_cell? w _ hx410_1)).trans hx410_1; replace p410 := eq_true p410; replace q410 := eq_true q410
       go_wp2_with (first | ((with_reducible refine qv (N := 4) rfl ?_); refine qw ?hg (N := 4) ?hd (cs := #[.int .i64 0, .int .i64 0]) (t := 25) ?hr ?_; (case hd => rfl); (case hg => rfl); (case hr => first | (go_simp; done) | (go_simp; rfl)); intro gb411 hg w12 hbox hb; have n0_ := jb.mk (qk (by repeat (first | (with_reducible first | exact HB.1 | apply qb | apply qa | apply qc) | exact HB.1)) hb); have n1_ := jb.mk (hbox); have n2_ := jb.mk ((by rw [hg]; exact (ql (by repeat (first | (with_reducible first | exact HB.1 | apply qb | apply qa | apply qc) | exact HB.1))) : w.heap.size ≤ gb411)); have n3_ := jb.mk ((by rw [hg]; exact (ql (by repeat (first | (with_reducible first | exact HB.1 | apply qb | apply qa | apply qc) | exact HB.1))) : w.heap.size ≤ gb411)); clear HB; have HB := n0_; have BK411 := n1_; have GW411 := n2_; have GE411 := n3_; clear n0_ n1_ n2_ n3_; clear hb hbox hg; have hcz13_0 : w12.cell? ⟨gb411, 0, none⟩ = some (.int .i64 0) := (qh BK411.1 0).trans rfl; have hcz13_1 : w12.cell? ⟨gb411, 1, none⟩ = some (.int .i64 0) := (qh BK411.1 1).trans rfl; have hfz13_0 := qg BK411.1 0; have hfz13_1 := qg BK411.1 1) | ((with_reducible refine qo (f := 69) rfl ?_); refine qy (some 16) rfl rfl Tryz.func69 (by kernel_rfl) rfl #[.agg #[.int .i64 ((je l0 x11_1).f0), .int .i64 ((je l0 x11_1).f1)]] rfl (by (try simp only [List.map_toArray, List.map_cons, List.map_nil]); first | done | rfl | (simp only [List.length_drop, List.length_take]; rfl)) ?_; (with_reducible refine (spec_meGood.calls ((je l0 x11_1).f0) ((je l0 x11_1).f1) false _ A7.1).mono ?_); rintro e w14 ⟨rfl, hb⟩; refine ⟨_, rfl, ?_⟩; have n0_ := jb.mk (qu (g := gb411) (o := .cells #[.int .i64 ((je l0 x11_1).f0), .int .i64 ((je l0 x11_1).f1)] 25 (0, 0)) (by (with_reducible repeat (first | refine qf ?_ _ | refine qi ?_ | refine qe ?_ _)); refine blk_put (cs := #[.int .i64 ((je l0 x11_1).f0), .int .i64 0]) ?_ 1 _ rfl; (with_reducible repeat (first | refine qf ?_ _ | refine qi ?_ | refine qe ?_ _)); refine blk_put (cs := #[.int .i64 0, .int .i64 0]) ?_ 0 _ rfl; (with_reducible repeat (first | refine qf ?_ _ | refine qi ?_ | refine qe ?_ _)); exact BK411.1) hb); have n1_ := jb.mk (qk (by repeat (first | (with_reducible first | exact HB.1 | apply qb | apply qa | apply qc | refine qd ?_ GE411.out) | exact HB.1)) hb); clear BK411; clear HB; have BK411 := n0_; have HB := n1_; clear n0_ n1_; (try clear hb); (try clear hb2); (try clear hk); (try clear hi)))
       go_ret
       exact ⟨by first | rfl | (simp [qr, qq] <;> rfl) | (simp [*, qr, qq] <;> rfl), by repeat (first | (with_reducible first | exact HB.1 | apply qb | apply qa | apply qc | refine qd ?_ GE411.out) | exact HB.1)⟩
      rw [if_neg c6] at H; exact absurd H (by simp)
     rw [if_neg c5] at H; exact absurd H (by simp)
    rw [if_neg c4] at H; have c4b0 : decide (x11_1 < (l0.length : Int)) = false := decide_eq_false c4; clear c4; obtain rfl := Option.some.inj H
    go_wp2
    go_ret
    exact ⟨by first | rfl | (simp [qr, qq] <;> rfl) | (simp [*, qr, qq] <;> rfl), by repeat (first | (with_reducible first | exact HB.1 | apply qb | apply qa | apply qc) | exact HB.1)⟩
 replace c3 := Bool.eq_false_iff.mpr c3; subst c3; rw [if_neg (show ¬ (false = true) by decide)] at H; obtain rfl := Option.some.inj H; go_enter Tryz.func55, Tryz.ntmps55
 go_wp2_with (((with_reducible refine qo (f := 46) rfl ?_); refine qy (some 7) rfl rfl Tryz.func46 (by kernel_rfl) rfl #[.int .i64 (l0.length : Int), .int .i64 1, .int .i64 8] rfl (by (try simp only [List.map_toArray, List.map_cons, List.map_nil]); first | done | rfl | (simp only [List.length_drop, List.length_take]; rfl)) ?_; (with_reducible refine (spec_l1In.calls (l0.length : Int) 1 8 false _ A2.1).mono ?_); rintro e w' ⟨rfl, ⟨nd, rfl⟩⟩; refine ⟨_, rfl, ?_⟩))
 go_ret
 exact ⟨by first | rfl | (simp [qr, qq] <;> rfl) | (simp [*, qr, qq] <;> rfl), by repeat (first | (with_reducible first | exact HB.1 | apply qb | apply qa | apply qc) | exact HB.1)⟩

/-! ### spec_meTime: function 56 -/
def spec_meTime.f (a0 : Int) (a1 : Int) : Option (Bool) := (spec_l1In.f a0 0 1000000).bind fun t413 => (if t413 = true then ((spec_l1In.f a1 1 1000).bind fun t414 => (some t414)) else (some false))
set_option maxHeartbeats 8000000 in
set_option maxRecDepth 100000 in
theorem spec_meTime.calls (a0 : Int) (a1 : Int) (r : Bool) (w : World) (h : spec_meTime.f a0 a1 = some r) :
  Calls Tryz.prog 56 #[.int .i64 a0, .int .i64 a1] w fun e w' => e = .returned (.bool r) ∧ Drawn0 w w' := by
 have H : ((spec_l1In.f a0 0 1000000).bind fun t413 => (if t413 = true then ((spec_l1In.f a1 1 1000).bind fun t414 => (some t414)) else (some false))) = some r := h; clear h; replace H := Option.bind_eq_some_iff.mp H; obtain ⟨t413, A30, H⟩ := H
 try dsimp only at H
 have A3 := jb.mk A30; clear A30
 by_cases c4 : t413 = true
 ·subst c4; rw [if_pos rfl] at H; replace H := Option.bind_eq_some_iff.mp H; obtain ⟨t414, A50, H⟩ := H
  try dsimp only at H
  have A5 := jb.mk A50; clear A50; obtain rfl := Option.some.inj H; go_enter Tryz.func56, Tryz.ntmps56
  go_wp2_with (first | ((with_reducible refine qo (f := 46) rfl ?_); refine qy (some 6) rfl rfl Tryz.func46 (by kernel_rfl) rfl #[.int .i64 a0, .int .i64 0, .int .i64 1000000] rfl (by (try simp only [List.map_toArray, List.map_cons, List.map_nil]); first | done | rfl | (simp only [List.length_drop, List.length_take]; rfl)) ?_; (with_reducible refine (spec_l1In.calls a0 0 1000000 true _ A3.1).mono ?_); rintro e w' ⟨rfl, ⟨nd, rfl⟩⟩; refine ⟨_, rfl, ?_⟩) | (go_at_call 46; (with_reducible refine (spec_l1In.calls a1 1 1000 t414 _ A5.1).mono ?_); rintro e w' ⟨rfl, ⟨nd, rfl⟩⟩))
  go_ret
  exact ⟨by first | rfl | (simp; done) | (simp [*]; done), by repeat (first | exact Drawn0.refl _ | apply Drawn0.step)⟩
 replace c4 := Bool.eq_false_iff.mpr c4; subst c4; rw [if_neg (show ¬ (false = true) by decide)] at H; obtain rfl := Option.some.inj H; go_enter Tryz.func56, Tryz.ntmps56
 go_wp2_with (((with_reducible refine qo (f := 46) rfl ?_); refine qy (some 6) rfl rfl Tryz.func46 (by kernel_rfl) rfl #[.int .i64 a0, .int .i64 0, .int .i64 1000000] rfl (by (try simp only [List.map_toArray, List.map_cons, List.map_nil]); first | done | rfl | (simp only [List.length_drop, List.length_take]; rfl)) ?_; (with_reducible refine (spec_l1In.calls a0 0 1000000 false _ A3.1).mono ?_); rintro e w' ⟨rfl, ⟨nd, rfl⟩⟩; refine ⟨_, rfl, ?_⟩))
 go_ret
 exact ⟨by first | rfl | (simp; done) | (simp [*]; done), by repeat (first | exact Drawn0.refl _ | apply Drawn0.step)⟩

/-! ### spec_meBefore: function 78 -/
def spec_meBefore.l0 : Nat → List Int → List Int → Int → Int → Option (Bool)
 | 0, _, _, _, _ => none
 | k + 1, x0, x1, x7, x8 => if x8 < x7 then (if 0 ≤ x8 then (if x8 < (x0.length : Int) then (if x8 < (x1.length : Int) then (if (rd x0 x8) = (rd x1 x8) then (spec_meBefore.l0 k x0 x1 x7 (wrap64 (x8 + 1))) else (some (decide ((rd x0 x8) < (rd x1 x8))))) else (none)) else (none)) else (none)) else (some false)
def spec_meBefore.f (k : Nat) (l0 : List Int) (l1 : List Int) : Option (Bool) := spec_meBefore.l0 k l0 l1 (l0.length : Int) 0
set_option maxHeartbeats 8000000 in
set_option maxRecDepth 100000 in
theorem spec_meBefore.calls (k : Nat) (A0 : Option Addr) (c0 : Nat) (l0 : List Int) (A1 : Option Addr) (c1 : Nat) (l1 : List Int) (r : Bool) (w : World) (hr0 : Kd.C (Kd.int .i64) w A0 l0.length l0) (hc0 : l0.length ≤ c0) (hr1 : Kd.C (Kd.int .i64) w A1 l1.length l1) (hc1 : l1.length ≤ c1) (h : spec_meBefore.f k l0 l1 = some r) :
  Calls Tryz.prog 78 #[.slice A0 l0.length c0, .slice A1 l1.length c1] w fun e w' => e = .returned (.bool r) ∧ Drawn0 w w' := by
 have HR0 := jb.mk hr0; have HC0 := jb.mk hc0; clear hr0 hc0; have HR1 := jb.mk hr1; have HC1 := jb.mk hc1; clear hr1 hc1; have H : (spec_meBefore.l0 k l0 l1 (l0.length : Int) 0) = some r := h; clear h; have H' := jb.mk H; clear H; go_enter Tryz.func78, Tryz.ntmps78
 go_wp2
 repeat (go_quiet (fail); try go_wp2)
 go_loopg [8] k (fun kq v8 w' => ∃ (x8_1 : Int), v8 = .int .i64 x8_1 ∧ jb (spec_meBefore.l0 kq l0 l1 (l0.length : Int) x8_1 = some r) ∧ jb (kq ≤ k) ∧ Drawn0 w w')
 case atStart => exact ⟨(0), (by first | rfl | (simp; done) | (simp [*]; done)), H', ⟨Nat.le_refl _⟩, by repeat (first | exact Drawn0.refl _ | apply Drawn0.step)⟩
 case round =>
  clear H'; (try clear c1); (try clear p2); obtain ⟨x8_1, rfl, HA, HK1, ⟨m1, rfl⟩⟩ := hrel; cases gk with
  | zero => exact absurd HA.1 (by simp [spec_meBefore.l0])
  | succ k1 =>
   have H := HA.1; clear HA; simp only [spec_meBefore.l0] at H
   by_cases c3 : x8_1 < (l0.length : Int)
   ·rw [if_pos c3] at H; have c3b0 : decide (x8_1 < (l0.length : Int)) = true := decide_eq_true c3; clear c3
    by_cases c4 : 0 ≤ x8_1
    ·rw [if_pos c4] at H; have c4b0 : decide (0 ≤ x8_1) = true := decide_eq_true c4; clear c4
     by_cases c5 : x8_1 < (l0.length : Int)
     ·rw [if_pos c5] at H; have c5b0 : decide (x8_1 < (l0.length : Int)) = true := decide_eq_true c5; clear c5
      by_cases c6 : x8_1 < (l1.length : Int)
      ·rw [if_pos c6] at H; have c6b0 : decide (x8_1 < (l1.length : Int)) = true := decide_eq_true c6; clear c6
       by_cases c7 : (rd l0 x8_1) = (rd l1 x8_1)
       ·rw [if_pos c7] at H; have c7b0 : ((rd l0 x8_1) == (rd l1 x8_1)) = true := beq_iff_eq.mpr c7; have c7b1 : ((rd l0 x8_1) != (rd l1 x8_1)) = false := bne_eq_false_iff_eq.mpr c7; clear c7; have H' := jb.mk H; clear H; have p415 : 0 ≤ (x8_1 : Int) := of_decide_eq_true (by first | (with_reducible assumption) | assumption); have q415 : x8_1 < (l0.length : Int) := of_decide_eq_true (by first | (with_reducible assumption) | assumption); obtain ⟨ad415, e415, hx415_0⟩ := Kd.at_int HR0.1 x8_1 p415 q415; cases e415; replace p415 := eq_true p415; replace q415 := eq_true q415; have p416 : 0 ≤ (x8_1 : Int) := of_decide_eq_true (by first | (with_reducible assumption) | assumption); have q416 : x8_1 < (l1.length : Int) := of_decide_eq_true (by first | (with_reducible assumption) | assumption); obtain ⟨ad416, e416, hx416_0⟩ := Kd.at_int HR1.1 x8_1 p416 q416; cases e416; replace p416 := eq_true p416; replace q416 := eq_true q416
        go_wp2
        repeat (go_quiet (fail); try go_wp2)
        go_roundg k1
        case measure => have := HK1.1; omega
        case rel => exact ⟨(wrap64 (x8_1 + 1)), (by first | rfl | (simp; done) | (simp [*]; done)), H', ⟨by have := HK1.1; omega⟩, by repeat (first | exact Drawn0.refl _ | apply Drawn0.step)⟩
       rw [if_neg c7] at H; have c7b0 : ((rd l0 x8_1) == (rd l1 x8_1)) = false := beq_eq_false_iff_ne.mpr c7; have c7b1 : ((rd l0 x8_1) != (rd l1 x8_1)) = true := bne_iff_ne.mpr c7; obtain rfl := Option.some.inj H; have p415 : 0 ≤ (x8_1 : Int) := of_decide_eq_true (by first | (with_reducible assumption) | assumption); have q415 : x8_1 < (l0.length : Int) := of_decide_eq_true (by first | (with_reducible assumption) | assumption); obtain ⟨ad415, e415, hx415_0⟩ := Kd.at_int HR0.1 x8_1 p415 q415; cases e415; replace p415 := eq_true p415; replace q415 := eq_true q415; have p416 : 0 ≤ (x8_1 : Int) := of_decide_eq_true (by first | (with_reducible assumption) | assumption); have q416 : x8_1 < (l1.length : Int) := of_decide_eq_true (by first | (with_reducible assumption) | assumption); obtain ⟨ad416, e416, hx416_0⟩ := Kd.at_int HR1.1 x8_1 p416 q416; cases e416; replace p416 := eq_true p416; replace q416 := eq_true q416; have p417 : 0 ≤ (x8_1 : Int) := of_decide_eq_true (by first | (with_reducible assumption) | assumption); have q417 : x8_1 < (l0.length : Int) := of_decide_eq_true (by first | (with_reducible assumption) | assumption); obtain ⟨ad417, e417, hx417_0⟩ := Kd.at_int HR0.1 x8_1 p417 q417; obtain rfl : ad415 = ad417 := (by injection e417); replace p417 := eq_true p417; replace q417 := eq_true q417; have p418 : 0 ≤ (x8_1 : Int) := of_decide_eq_true (by first | (with_reducible assumption) | assumption); have q418 : x8_1 < (l1.length : Int) := of_decide_eq_true (by first | (with_reducible assumption) | assumption); obtain ⟨ad418, e418, hx418_0⟩ := Kd.at_int HR1.1 x8_1 p418 q418; obtain rfl : ad416 = ad418 := (by injection e418); replace p418 := eq_true p418; replace q418 := eq_true q418
       go_wp2
       repeat (go_quiet (fail); try go_wp2)
       go_ret
       exact ⟨by first | rfl | (simp; done) | (simp [*]; done), by repeat (first | exact Drawn0.refl _ | apply Drawn0.step)⟩
      rw [if_neg c6] at H; exact absurd H (by simp)
     rw [if_neg c5] at H; exact absurd H (by simp)
    rw [if_neg c4] at H; exact absurd H (by simp)
   rw [if_neg c3] at H; have c3b0 : decide (x8_1 < (l0.length : Int)) = false := decide_eq_false c3; clear c3; obtain rfl := Option.some.inj H
   go_wp2
   repeat (go_quiet (fail); try go_wp2)
   go_ret
   exact ⟨by first | rfl | (simp; done) | (simp [*]; done), by repeat (first | exact Drawn0.refl _ | apply Drawn0.step)⟩

/-! ### spec_l1Own: function 79 -/
def spec_l1Own.f (l0 : List Int) : Option (List Int) := (some (([] : List Int) : List Int)).bind fun y419 => (if y419.length + l0.length < 17592186044416 then (some (y419 ++ l0)) else (none))
set_option maxHeartbeats 8000000 in
set_option maxRecDepth 100000 in
theorem spec_l1Own.calls (A0 : Option Addr) (c0 : Nat) (l0 : List Int) (r : List Int) (w : World) (hr0 : Kd.C (Kd.int .i64) w A0 l0.length l0) (hc0 : l0.length ≤ c0) (h : spec_l1Own.f l0 = some r) :
  Calls Tryz.prog 79 #[.slice A0 l0.length c0] w fun e w' => ∃ v0_ : Value, e = .returned (v0_) ∧ Kd.R (Kd.int .i64) 3 w' w.heap.size (fun _ => True) v0_ r ∧ Below w.heap.size w w' := by
 have HR0 := jb.mk hr0; have HC0 := jb.mk hc0; clear hr0 hc0; have HB := jb.mk (Below.refl w.heap.size w); have H : ((some (([] : List Int) : List Int)).bind fun y419 => (if y419.length + l0.length < 17592186044416 then (some (y419 ++ l0)) else (none))) = some r := h; clear h; obtain ⟨y419, hy419⟩ : ∃ y_ : List Int, y_ = (([] : List Int)) := ⟨_, rfl⟩; replace H : (if y419.length + l0.length < 17592186044416 then (some (y419 ++ l0)) else (none)) = some r := by first | (rw [hy419]; with_reducible exact H) | (have H2_ := (Option.bind_some _ _).symm.trans H; rw [hy419]; with_reducible exact H2_) | (have H2_ := (Option.bind_some _ _).symm.trans H; with_reducible exact H2_) | with_reducible exact H | (rw [hy419]; exact H) | exact H
 have Ny419 := jb.mk hy419; clear hy419
 by_cases c2 : y419.length + l0.length < 17592186044416
 ·rw [if_pos c2] at H; have LMc2 := jb.mk c2; clear c2; obtain ⟨y422, hy422⟩ : ∃ y_ : List Int, y_ = (y419 ++ l0) := ⟨_, rfl⟩; replace H : (some y422) = some r := by first | (rw [hy422]; with_reducible exact H) | (have H2_ := (Option.bind_some _ _).symm.trans H; rw [hy422]; with_reducible exact H2_) | (have H2_ := (Option.bind_some _ _).symm.trans H; with_reducible exact H2_) | with_reducible exact H | (rw [hy422]; exact H) | exact H
  have Ny422 := jb.mk hy422; clear hy422; obtain rfl := Option.some.inj H; go_enter Tryz.func79, Tryz.ntmps79
  go_wp2_with (first | ((with_reducible refine qv (N := 3) rfl ?_); refine Kd.R_lit (Kd.int .i64) _ 3 ?hg (N := 3) ?hd (xs := ([] : List Int)) (inner := []) (ok := fun _ => True) (okp := fun _ => True) ?hr ?hp (fun _ hk => hk) trivial (Below.refl _ _) (Nat.le_refl _) (by simp) ?_; (case hd => rfl); (case hg => rfl); (case hr => first | (go_simp; done) | (go_simp; rfl)); (case hp => exact (Reps.none _ _)); intro v420 w3 ho4 hb hg_ hnew_; clear hg_ hnew_; (first | rw [← Ny419.out] at ho4 | (simp only [Int.reduceToNat] at ho4; rw [← Ny419.out] at ho4)); have n0_ := jb.mk (Kd.R_lower ho4 (ql (by repeat (first | (with_reducible first | exact HB.1 | apply qb | apply qa | apply qc) | exact HB.1)))); have n1_ := jb.mk (qk (by repeat (first | (with_reducible first | exact HB.1 | apply qb | apply qa | apply qc) | exact HB.1)) hb); clear HB; have HO421 := n0_; have HB := n1_; clear n0_ n1_; clear hb ho4) | ((with_reducible refine gate_builtin (b := .append) (xs := #[.tmp 3, .tmp 4]) rfl ?_); at_builtin; refine Kd.R_append_rows (Kd.int .i64) (w0 := w) w.heap.size rfl (.tmp 3) (.tmp 4) 35 3 (.int .i64 0) 8 rfl Tryz.underlying35 info3 rfl (by decide) (by omega) v420 y419 l0 _ _ _ (fun _ => True) (fun _ => False) rfl rfl ?aO ?aR (fun _ _ h => h) (fun _ h => h.elim) ?aF ?aB ?aS ?aL ?_; (case aR => repeat (first | exact (Kd.C_below HR0.1 HB.1) | (with_reducible refine Kd.C_alloc ?_ _) | (with_reducible refine Kd.C_drewN ?_ _) | (with_reducible refine Kd.C_drew ?_))); (case aB => exact (by repeat (first | (with_reducible first | exact HB.1 | apply qb | apply qa | apply qc) | exact HB.1))); (case aF => exact (fun _ _ => trivial)); (case aO => exact (by (with_reducible repeat (first | apply Kd.ja | apply Kd.qz | apply Kd.R_drew)); exact HO421.1)); (case aS => exact (ql (by repeat (first | (with_reducible first | exact HB.1 | apply qb | apply qa | apply qc) | exact HB.1)))); (case aL => have := LMc2.out; omega); intro v423 w5 ho hb hg hat; rw [← Ny422.out] at ho; have n0_ := jb.mk (hb); have n1_ := jb.mk (ho); clear HB; clear HO421; have HB := n0_; have HO424 := n1_; clear n0_ n1_; clear ho hb hg hat))
  go_ret
  exact ⟨_, by first | rfl | (simp [qr, qq] <;> rfl) | (simp [*, qr, qq] <;> rfl), by (with_reducible repeat (first | apply Kd.ja | apply Kd.qz | apply Kd.R_drew)); exact HO424.1, by repeat (first | (with_reducible first | exact HB.1 | apply qb | apply qa | apply qc) | exact HB.1)⟩
 rw [if_neg c2] at H; exact absurd H (by simp)

end Go.Proofs.YtfaccdafldbjcaaGreat.OFnWalkersRound
