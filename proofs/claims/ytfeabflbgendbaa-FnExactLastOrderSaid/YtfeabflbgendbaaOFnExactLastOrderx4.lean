/- The law FnExactLastOrder: contracts of functions, written by a program (after the kit's print). -/
import Derived.Test.YtfeabflbgendbaaOFnExactLastOrderx0
import Derived.Test.YtfeabflbgendbaaOFnExactLastOrderx3
namespace Go.Proofs.Ytfeabflbgendbaa.OFnExactLastOrder
open Go.RowKit Go.Proofs.YtfeabflbgendbaaW.PrintWords Go.Proofs.YtfeabflbgendbaaW.PrintLast Go.Proofs.YtfeabflbgendbaaW.PrintMore
attribute [local go_sem] max2_int min2_int max_two min_two max_three min_three max_four min_four   -- for this text's walks alone
set_option linter.unusedVariables false
set_option linter.unusedSimpArgs false

/-! ### cmp_Or_int: function 67 -/
def cmp_Or_int.l0 : Nat → Int → List Int → Int → Int → Option (Int)
  | 0, _, _, _, _ => none
  | k + 1, x3, x6, x7, x8 => if x8 < x7 then (if 0 ≤ x8 then (if x8 < (x6.length : Int) then (if (rd x6 x8) = x3 then (cmp_Or_int.l0 k x3 x6 x7 (wrap64 (x8 + 1))) else (some (rd x6 x8))) else (none)) else (none)) else (some x3)
def cmp_Or_int.f (k : Nat) (l0 : List Int) : Option (Int) := cmp_Or_int.l0 k 0 l0 (l0.length : Int) 0
theorem cmp_Or_int.mono_l : ∀ k, (∀ y0 y1 y2 y3, LeO (cmp_Or_int.l0 k y0 y1 y2 y3) (cmp_Or_int.l0 (k + 1) y0 y1 y2 y3))
  | 0 => fun _ _ _ _ r h => by simp [cmp_Or_int.l0] at h
  | k + 1 => by
    have ih0 := cmp_Or_int.mono_l k
    · intro y0 y1 y2 y3
      unfold cmp_Or_int.l0
      repeat' first
      | (with_reducible exact ih0 _ _ _ _)
      | (with_reducible exact LeO.refl _)
      | (with_reducible exact LeO.none _)
      | (with_reducible refine LeO.ite ?_ ?_)
      | (with_reducible refine LeO.bind ?_ (fun _ => ?_))
      | exact ih0 _ _ _ _
      | exact LeO.none _
      | refine LeO.ite ?_ ?_
      | refine LeO.bind ?_ (fun _ => ?_)
theorem cmp_Or_int.mono : ∀ a0 k, LeO (cmp_Or_int.f k a0) (cmp_Or_int.f (k + 1) a0) := by
  intro a0 k
  have ih0 := cmp_Or_int.mono_l k
  unfold cmp_Or_int.f
  repeat' first
      | (with_reducible exact ih0 _ _ _ _)
      | (with_reducible exact LeO.refl _)
      | (with_reducible exact LeO.none _)
      | (with_reducible refine LeO.ite ?_ ?_)
      | (with_reducible refine LeO.bind ?_ (fun _ => ?_))
      | exact ih0 _ _ _ _
      | exact LeO.none _
      | refine LeO.ite ?_ ?_
      | refine LeO.bind ?_ (fun _ => ?_)
set_option maxHeartbeats 8000000 in
set_option maxRecDepth 100000 in
theorem cmp_Or_int.calls (k : Nat) (A0 : Option Addr) (c0 : Nat) (l0 : List Int) (r : Int) (w : World) (hr0 : Kd.C (Kd.int .i64) w A0 l0.length l0) (hc0 : l0.length ≤ c0) (h : cmp_Or_int.f k l0 = some r) :
    Calls Try.prog 67 #[.slice A0 l0.length c0] w fun e w' => e = .returned (.int .i64 r) ∧ Drawn0 w w' := by
  have HR0 := Aside0.mk hr0
  have HC0 := Aside0.mk hc0
  clear hr0 hc0
  have H : (cmp_Or_int.l0 k 0 l0 (l0.length : Int) 0) = some r := h
  clear h
  have H' := Aside0.mk H
  clear H
  go_enter Try.func67, Try.ntmps67
  go_wp2
  go_loopg [8] k (fun kq v8 w' => ∃ (x8_1 : Int), v8 = .int .i64 x8_1 ∧ Aside0 (cmp_Or_int.l0 kq 0 l0 (l0.length : Int) x8_1 = some r) ∧ Aside0 (kq ≤ k) ∧ Drawn0 w w')
  case atStart => exact ⟨(0), (by first | rfl | (simp; done) | (simp [*]; done)), H', ⟨Nat.le_refl _⟩, by repeat (first | exact Drawn0.refl _ | apply Drawn0.step)⟩
  case round =>
    clear H'
    obtain ⟨x8_1, rfl, HA, HK1, ⟨m1, rfl⟩⟩ := hrel
    cases gk with
    | zero => exact absurd HA.out (by simp [cmp_Or_int.l0])
    | succ k1 =>
      have H := HA.out
      clear HA
      simp only [cmp_Or_int.l0] at H
      by_cases c2 : x8_1 < (l0.length : Int)
      · rw [if_pos c2] at H
        have c2b0 : decide (x8_1 < (l0.length : Int)) = true := decide_eq_true c2
        clear c2
        by_cases c3 : 0 ≤ x8_1
        · rw [if_pos c3] at H
          have c3b0 : decide (0 ≤ x8_1) = true := decide_eq_true c3
          clear c3
          by_cases c4 : x8_1 < (l0.length : Int)
          · rw [if_pos c4] at H
            have c4b0 : decide (x8_1 < (l0.length : Int)) = true := decide_eq_true c4
            clear c4
            by_cases c5 : (rd l0 x8_1) = 0
            · rw [if_pos c5] at H
              have c5b0 : ((rd l0 x8_1) == 0) = true := beq_iff_eq.mpr c5
              have c5b1 : ((rd l0 x8_1) != 0) = false := bne_eq_false_iff_eq.mpr c5
              clear c5
              have H' := Aside0.mk H
              clear H
              have p196 : 0 ≤ (x8_1 : Int) := of_decide_eq_true (by first | (with_reducible assumption) | assumption)
              have q196 : x8_1 < (l0.length : Int) := of_decide_eq_true (by first | (with_reducible assumption) | assumption)
              obtain ⟨ad196, e196, hx196_0⟩ := Kd.at_int HR0.out x8_1 p196 q196
              cases e196
              replace p196 := eq_true p196
              replace q196 := eq_true q196
              go_wp2
              go_roundg k1
              case measure => have := HK1.out; omega
              case rel => exact ⟨(wrap64 (x8_1 + 1)), (by first | rfl | (simp; done) | (simp [*]; done)), H', ⟨by have := HK1.out; omega⟩, by repeat (first | exact Drawn0.refl _ | apply Drawn0.step)⟩
            · rw [if_neg c5] at H
              have c5b0 : ((rd l0 x8_1) == 0) = false := beq_eq_false_iff_ne.mpr c5
              have c5b1 : ((rd l0 x8_1) != 0) = true := bne_iff_ne.mpr c5
              obtain rfl := Option.some.inj H
              have p196 : 0 ≤ (x8_1 : Int) := of_decide_eq_true (by first | (with_reducible assumption) | assumption)
              have q196 : x8_1 < (l0.length : Int) := of_decide_eq_true (by first | (with_reducible assumption) | assumption)
              obtain ⟨ad196, e196, hx196_0⟩ := Kd.at_int HR0.out x8_1 p196 q196
              cases e196
              replace p196 := eq_true p196
              replace q196 := eq_true q196
              go_wp2
              go_ret
              exact ⟨by first | rfl | (simp; done) | (simp [*]; done), by repeat (first | exact Drawn0.refl _ | apply Drawn0.step)⟩
          · rw [if_neg c4] at H
            exact absurd H (by simp)
        · rw [if_neg c3] at H
          exact absurd H (by simp)
      · rw [if_neg c2] at H
        have c2b0 : decide (x8_1 < (l0.length : Int)) = false := decide_eq_false c2
        clear c2
        obtain rfl := Option.some.inj H
        go_wp2
        go_ret
        exact ⟨by first | rfl | (simp; done) | (simp [*]; done), by repeat (first | exact Drawn0.refl _ | apply Drawn0.step)⟩

/-! ### impl_LastOrder: function 31 -/
/-- Two neighbours change places. -/
def swpV (l : List Value) (j : Nat) : List Value := (l.set (j + 1) (l.getD j undef)).set j (l.getD (j + 1) undef)
def insJ (c : Value → Value → Int) : Nat → List Value → List Value
  | 0, l => l
  | j + 1, l => if c (l.getD (j + 1) undef) (l.getD j undef) < 0 then insJ c j (swpV l j) else l
def insI (c : Value → Value → Int) : Nat → Nat → List Value → List Value
  | 0, _, l => l
  | n + 1, i, l => insI c n (i + 1) (insJ c i l)
/-- Behind w: base's blocks as they were, the row gb holds l, w's other blocks as they were. -/
def SoW (base : Nat) (gb : Nat) (t : TypeId) (w : World) (l : List Value) (W : World) : Prop :=
  base ≤ gb ∧ Below base w W ∧ W.heap[gb]? = some (.cells l.toArray t (0, 0)) ∧ ∀ k, k < w.heap.size → k ≠ gb → W.heap[k]? = w.heap[k]?
section
variable {base gb : Nat} {t : TypeId} {w W W' : World} {l : List Value}
theorem SoW.grow (h : SoW base gb t w l W) (hb : Below W.heap.size W W') : SoW base gb t w l W' := by
  obtain ⟨h0, h1, h2, h3⟩ := h
  have lt := blk_lt h2
  exact ⟨h0, h1.trans (hb.mono (by omega)), blk_below h2 hb, fun k hk hne => (hb.block k (Nat.lt_of_lt_of_le hk h1.size)).trans (h3 k hk hne)⟩
theorem SoW.at (h : SoW base gb t w l W) (j : Nat) (hj : j < l.length) : W.cell? ⟨gb, j, none⟩ = some (l.getD j undef) := by
  rw [blk_cell h.2.2.1 j]; simp [List.getD_eq_getElem?_getD, hj]
theorem SoW.fr (h : SoW base gb t w l W) (j : Nat) : W.frozen? ⟨gb, j, none⟩ = false := blk_frozen h.2.2.1 j
theorem SoW.set (h : SoW base gb t w l W) (j : Nat) (v : Value) : SoW base gb t w (l.set j v) (W.setCell ⟨gb, j, none⟩ v) := by
  obtain ⟨h0, h1, h2, h3⟩ := h
  refine ⟨h0, h1.setCell h0 _, ?_, fun k hk hne => (Below.heap_setCell W ⟨gb, j, none⟩ v k hne).trans (h3 k hk hne)⟩
  rw [blk_set h2 j v]; simp
theorem SoW.keep {a b : Addr} {x y : Value} (h : SoW base gb t w l W ∧ W.cell? a = some x ∧ W.cell? b = some y) (hb : Below W.heap.size W W') : SoW base gb t w l W' ∧ W'.cell? a = some x ∧ W'.cell? b = some y :=
  ⟨h.1.grow hb, (hb.cell (World.block_lt_of_cell? W _ h.2.1)).trans h.2.1, (hb.cell (World.block_lt_of_cell? W _ h.2.2)).trans h.2.2⟩
end
theorem swpV_length (l : List Value) (j : Nat) : (swpV l j).length = l.length := by unfold swpV; simp
theorem swpV_all (Q : Value → Prop) (l : List Value) (j : Nat) (hj : j + 1 < l.length) (h : ∀ x ∈ l, Q x) : ∀ x ∈ swpV l j, Q x := by
  intro x hx
  unfold swpV at hx
  rcases List.mem_or_eq_of_mem_set hx with z | z
  · rcases List.mem_or_eq_of_mem_set z with y | y
    · exact h x y
    · subst y; simp only [List.getD_eq_getElem?_getD, List.getElem?_eq_getElem (show j < l.length by omega), Option.getD_some]; exact h _ (List.getElem_mem _)
  · subst z; simp only [List.getD_eq_getElem?_getD, List.getElem?_eq_getElem hj, Option.getD_some]; exact h _ (List.getElem_mem _)
set_option maxHeartbeats 8000000 in
set_option maxRecDepth 100000 in
theorem ins91.calls (base : Nat) (c : Value → Value → Int) (g : Nat) (lb : Array Value) (P : Value → Prop) (eg : ∀ args w, (callFunc g args).run Try.prog w = .ok (.enter g args) w) (w : World)
    (hp : ∀ W x y, Below base w W → P x → P y → Calls Try.prog g (#[x, y] ++ lb) W fun e w' => e = .returned (.int .i64 (c x y)) ∧ Below W.heap.size W w')
    (gb : Nat) (hgb : base ≤ gb) (l : List Value) (hl : l.length ≤ 1000) (hl1 : 1 ≤ l.length) (hP : ∀ x ∈ l, P x ∧ ∃ n : Int, x = .int .i64 n) (cap : Nat) (hb : w.heap[gb]? = some (.cells l.toArray 3 (0, 0))) :
    Calls Try.prog 91 #[.slice (some ⟨gb, 0, none⟩) l.length cap, .int .i64 0, .int .i64 l.length, .func (.func g) #[] lb] w fun e w' => e = .returned (.tuple #[]) ∧ SoW base gb 3 w (insI c (l.length - 1) 1 l) w' := by
  have HP := Aside0.mk hp
  have S0 := Aside0.mk (show SoW base gb 3 w l w from ⟨hgb, Below.refl _ _, hb, fun _ _ _ => rfl⟩)
  have A0 := Aside0.mk hP
  clear hp hb hP
  have mixed : Try.prog.follows .mixedOrders = true := by kernel_rfl
  go_enter Try.func91, Try.ntmps91
  go_wp2
  go_loopg [8] (l.length) (fun g1 vi wr => ∃ (i : Nat) (lk : List Value), vi = .int .i64 i ∧ 1 ≤ i ∧ i ≤ l.length ∧ l.length - i ≤ g1 ∧ lk.length = l.length ∧ Aside0 (∀ x ∈ lk, P x ∧ ∃ n : Int, x = .int .i64 n) ∧ Aside0 (SoW base gb 3 w lk wr) ∧ Aside0 (insI c (l.length - i) i lk = insI c (l.length - 1) 1 l))
  case atStart => exact ⟨1, l, by go_num, by omega, by omega, by omega, rfl, A0, S0, ⟨rfl⟩⟩
  case round =>
    clear S0 A0
    obtain ⟨i, lk, rfl, hi1, hil, hg1, hlk, A1, S1, HO⟩ := hrel
    by_cases hlt : i < l.length
    · have hltz : (i : Int) < (l.length : Int) := by omega
      go_wp2
      go_loopg [9] i (fun g2 vj wr2 => ∃ (j : Nat) (lj : List Value), vj = .int .i64 j ∧ j ≤ i ∧ j ≤ g2 ∧ lj.length = l.length ∧ Aside0 (∀ x ∈ lj, P x ∧ ∃ n : Int, x = .int .i64 n) ∧ Aside0 (SoW base gb 3 w lj wr2) ∧ Aside0 (insJ c j lj = insJ c i lk))
      case atStart => exact ⟨i, lk, rfl, Nat.le_refl _, Nat.le_refl _, hlk, A1, S1, ⟨rfl⟩⟩
      case round =>
        clear S1 A1
        obtain ⟨j, lj, rfl, hji, hg2, hlj, A2, S2, HI⟩ := hrel
        have OUT : insJ c i lk = lj → Aside0 (insI c (l.length - (i + 1)) (i + 1) lj = insI c (l.length - 1) 1 l) := fun z => ⟨by
          rw [← HO.out, show l.length - i = l.length - (i + 1) + 1 by omega]; simp only [insI]; rw [z]⟩
        by_cases hj0 : 0 < j
        · obtain ⟨jp, rfl⟩ : ∃ q, j = q + 1 := ⟨j - 1, by omega⟩
          have hs : jp + 1 < lj.length := by omega
          have c1 := S2.out.at (jp + 1) (by omega)
          have c0 := S2.out.at jp (by omega)
          have a1 := A2.out (lj.getD (jp + 1) undef) (by simp [List.getD_eq_getElem?_getD, hs])
          have a0 := A2.out (lj.getD jp undef) (by simp [List.getD_eq_getElem?_getD, show jp < lj.length by omega])
          have HC : ∀ W, SoW base gb 3 w lj W → Calls Try.prog g (#[lj.getD (jp + 1) undef, lj.getD jp undef] ++ lb) W fun e w' => e = .returned (.int .i64 (c (lj.getD (jp + 1) undef) (lj.getD jp undef))) ∧ Below W.heap.size W w' := fun W hW => HP.out W _ _ hW.2.1 a1.1 a0.1
          obtain ⟨x, hx⟩ : ∃ x, lj.getD (jp + 1) undef = x := ⟨_, rfl⟩
          obtain ⟨y, hy⟩ : ∃ x, lj.getD jp undef = x := ⟨_, rfl⟩
          rw [hx] at c1
          rw [hy] at c0
          have hz : ((jp + 1 : Nat) : Int) = (jp : Int) + 1 := by omega
          rw [hz]
          have p1 : (0 : Int) ≤ (jp : Int) + 1 := by omega
          have b1 : (jp : Int) + 1 < (l.length : Int) := by omega
          have e1 : ((jp : Int) + 1).toNat = jp + 1 := by omega
          have r1 : IntKind.i64.wrap ((jp : Int) + 1) = (jp : Int) + 1 := by rw [IntKind.wrap_i64]; omega
          have p0 : (0 : Int) ≤ (jp : Int) := by omega
          have b0 : (jp : Int) < (l.length : Int) := by omega
          have r0 : IntKind.i64.wrap (jp : Int) = (jp : Int) := by rw [IntKind.wrap_i64]; omega
          have dj : decide ((jp : Int) + 1 > 0) = true := decide_eq_true (by omega)
          have dj' : (0 : Int) < (jp : Int) + 1 := by omega
          rw [hx, hy] at HC
          have SK := Aside0.mk (show SoW base gb 3 w lj wr ∧ wr.cell? ⟨gb, jp + 1, none⟩ = some x ∧ wr.cell? ⟨gb, jp, none⟩ = some y from ⟨S2.out, c1, c0⟩)
          have HC1 := Aside0.mk (show ∀ W, (SoW base gb 3 w lj W ∧ W.cell? ⟨gb, jp + 1, none⟩ = some x ∧ W.cell? ⟨gb, jp, none⟩ = some y) → Calls Try.prog g (#[x, y] ++ lb) W fun e w' => e = .returned (.int .i64 (c x y)) ∧ Below W.heap.size W w' from fun W hW => HC W hW.1)
          clear HC c1 c0 S2 hz
          by_cases hc : c x y < 0
          · have hd : decide (c x y < 0) = true := decide_eq_true hc
            have hcc := hc
            generalize c x y = cv at hc hd HC1
            go_wp2_with fail
            go_region_held3 (fun w' => SoW base gb 3 w lj w' ∧ w'.cell? ⟨gb, jp + 1, none⟩ = some x ∧ w'.cell? ⟨gb, jp, none⟩ = some y)
              (first | exact SoW.keep (by first | assumption | exact SK.out) (by first | assumption | exact below_drew1 (Below.refl _ _)))
              (first | (go_at_fn g; refine (HC1.out _ (by assumption)).mono ?_; rintro e w' ⟨rfl, hb'⟩))
            rename_i hH
            have S3 := Aside0.mk hH.1
            clear hH SK hb'
            rename_i w2 _
            go_wp2_with fail
            have k1 := S3.out.at (jp + 1) (by omega)
            have k0 := S3.out.at jp (by omega)
            rw [hx] at k1
            rw [hy] at k0
            have f1 := S3.out.fr (jp + 1)
            have f0 := S3.out.fr jp
            have kc : (w'.setCell ⟨gb, jp + 1, none⟩ y).cell? ⟨gb, jp, none⟩ = some y := (World.cell?_setCell_other _ _ _ _ (by intro e'; simp only [Addr.mk.injEq] at e'; omega)).trans k0
            have S4 := Aside0.mk (show SoW base gb 3 w (swpV lj jp) ((w'.setCell ⟨gb, jp + 1, none⟩ y).setCell ⟨gb, jp, none⟩ x).drew from by
              have z := ((S3.out.set (jp + 1) y).set jp x).grow (below_drew1 (Below.refl _ _))
              rw [← hx, ← hy] at z; rw [← hx, ← hy]; exact z)
            have A4 := Aside0.mk (swpV_all _ lj jp hs A2.out)
            have I4 : Aside0 (insJ c jp (swpV lj jp) = insJ c i lk) := ⟨by rw [← HI.out]; simp only [insJ]; rw [hx, hy, if_pos hcc]⟩
            have o1 : ∃ n : Int, x = .int .i64 n := hx ▸ a1.2
            have o0 : ∃ n : Int, y = .int .i64 n := hy ▸ a0.2
            clear S3 A2 HI OUT HC1 hx hy a1 a0
            obtain ⟨xi, rfl⟩ := o1
            obtain ⟨yi, rfl⟩ := o0
            clear hcc
            go_big_region_o
            clear k1 k0 kc f1 f0
            generalize ((w'.setCell ⟨gb, jp + 1, none⟩ (.int .i64 yi)).setCell ⟨gb, jp, none⟩ (.int .i64 xi)).drew = w4 at S4 ⊢
            clear e1
            go_wp2
            go_roundg jp
            case measure => omega
            case rel => exact ⟨jp, swpV lj jp, by first | rfl | go_num, by omega, Nat.le_refl _, by rw [swpV_length]; exact hlj, A4, S4, I4⟩
          · have hd : decide (c x y < 0) = false := decide_eq_false hc
            have hcc := hc
            have O4 := OUT (by rw [← HI.out]; simp only [insJ]; rw [hx, hy, if_neg hc])
            generalize c x y = cv at hc hd HC1
            go_wp2_with fail
            go_region_held3 (fun w' => SoW base gb 3 w lj w' ∧ w'.cell? ⟨gb, jp + 1, none⟩ = some x ∧ w'.cell? ⟨gb, jp, none⟩ = some y)
              (first | exact SoW.keep (by first | assumption | exact SK.out) (by first | assumption | exact below_drew1 (Below.refl _ _)))
              (first | (go_at_fn g; refine (HC1.out _ (by assumption)).mono ?_; rintro e w' ⟨rfl, hb'⟩))
            rename_i hH
            have S3 := Aside0.mk hH.1
            clear hH SK hb' HC1 OUT
            go_wp2
            go_roundg (l.length - (i + 1))
            case measure => omega
            case rel => exact ⟨i + 1, lj, by go_num, by omega, by omega, by omega, hlj, A2, S3, O4⟩
        · have e : j = 0 := by omega
          subst e
          have O4 := OUT HI.out.symm
          go_wp2_with fail
          go_big_region_o
          have S3 := Aside0.mk (S2.out.grow (below_drew1 (Below.refl _ _)))
          clear S2 OUT
          generalize wr.drew = w2 at S3 ⊢
          go_wp2
          go_roundg (l.length - (i + 1))
          case measure => omega
          case rel => exact ⟨i + 1, lj, by go_num, by omega, by omega, by omega, hlj, A2, S3, O4⟩
    · have hltz : ¬ (i : Int) < (l.length : Int) := by omega
      have e : i = l.length := by omega
      have F := HO.out
      rw [e, Nat.sub_self] at F
      simp only [insI] at F
      subst F
      have S3 := S1.out
      go_wp2
      go_end0
      exact ⟨rfl, S3⟩
set_option maxHeartbeats 8000000 in
set_option maxRecDepth 100000 in
theorem sta87.calls (base : Nat) (c : Value → Value → Int) (g : Nat) (lb : Array Value) (P : Value → Prop) (eg : ∀ args w, (callFunc g args).run Try.prog w = .ok (.enter g args) w) (w : World)
    (hp : ∀ W x y, Below base w W → P x → P y → Calls Try.prog g (#[x, y] ++ lb) W fun e w' => e = .returned (.int .i64 (c x y)) ∧ Below W.heap.size W w')
    (gb : Nat) (hgb : base ≤ gb) (l : List Value) (hl : l.length < 20) (hl1 : 1 ≤ l.length) (hP : ∀ x ∈ l, P x ∧ ∃ n : Int, x = .int .i64 n) (cap : Nat) (hb : w.heap[gb]? = some (.cells l.toArray 3 (0, 0))) :
    Calls Try.prog 87 #[.slice (some ⟨gb, 0, none⟩) l.length cap, .int .i64 l.length, .func (.func g) #[] lb] w fun e w' => e = .returned (.tuple #[]) ∧ SoW base gb 3 w (insI c (l.length - 1) 1 l) w' := by
  have HC := Aside0.mk (ins91.calls base c g lb P eg w hp gb hgb l (by omega) hl1 hP cap hb)
  have d1 : ¬ (20 : Int) ≤ (l.length : Int) := by omega
  have d2 : ¬ (20 : Int) < (l.length : Int) := by omega
  clear hp hP hb
  generalize insI c (l.length - 1) 1 l = r at *
  go_enter Try.func87, Try.ntmps87
  go_wp2
  refine wp_loop_rounds 1 ?_
  rw [rounds_succ]
  go_wp2_with (go_at_call 91; refine HC.out.mono ?_; rintro e w1 ⟨rfl, hS⟩)
  have HS := Aside0.mk hS
  clear hS
  refine wp_loop_rounds 1 ?_
  rw [rounds_succ]
  go_wp2
  go_end0
  exact ⟨rfl, HS.out⟩
set_option maxHeartbeats 8000000 in
set_option maxRecDepth 100000 in
theorem sort79.calls (base : Nat) (c : Value → Value → Int) (g : Nat) (lb : Array Value) (P : Value → Prop) (eg : ∀ args w, (callFunc g args).run Try.prog w = .ok (.enter g args) w) (w : World)
    (hp : ∀ W x y, Below base w W → P x → P y → Calls Try.prog g (#[x, y] ++ lb) W fun e w' => e = .returned (.int .i64 (c x y)) ∧ Below W.heap.size W w')
    (gb : Nat) (hgb : base ≤ gb) (l : List Value) (hl : l.length < 20) (hl1 : 1 ≤ l.length) (hP : ∀ x ∈ l, P x ∧ ∃ n : Int, x = .int .i64 n) (cap : Nat) (hb : w.heap[gb]? = some (.cells l.toArray 3 (0, 0))) :
    Calls Try.prog 79 #[.slice (some ⟨gb, 0, none⟩) l.length cap, .func (.func g) #[] lb] w fun e w' => e = .returned (.tuple #[]) ∧ SoW base gb 3 w (insI c (l.length - 1) 1 l) w' := by
  have HC := Aside0.mk (sta87.calls base c g lb P eg w hp gb hgb l hl hl1 hP cap hb)
  clear hp hP hb
  generalize insI c (l.length - 1) 1 l = r at *
  go_enter Try.func79, Try.ntmps79
  go_wp2_with (go_at_call 87; refine HC.out.mono ?_; rintro e w1 ⟨rfl, hS⟩)
  go_end0
  exact ⟨rfl, hS⟩
theorem keep6 {w0 W W' : World} {a1 a2 a3 a4 a5 a6 : Addr} {v1 v2 v3 v4 v5 v6 : Value} (h : Below w0.heap.size w0 W ∧ W.cell? a1 = some v1 ∧ W.cell? a2 = some v2 ∧ W.cell? a3 = some v3 ∧ W.cell? a4 = some v4 ∧ W.cell? a5 = some v5 ∧ W.cell? a6 = some v6) (hb : Below W.heap.size W W') :
    Below w0.heap.size w0 W' ∧ W'.cell? a1 = some v1 ∧ W'.cell? a2 = some v2 ∧ W'.cell? a3 = some v3 ∧ W'.cell? a4 = some v4 ∧ W'.cell? a5 = some v5 ∧ W'.cell? a6 = some v6 := by
  have kc : ∀ p v, W.cell? p = some v → W'.cell? p = some v := fun p v h => (hb.cell (World.block_lt_of_cell? W _ h)).trans h
  obtain ⟨h0, h1, h2, h3, h4, h5, h6⟩ := h
  exact ⟨h0.trans (hb.mono h0.size), kc _ _ h1, kc _ _ h2, kc _ _ h3, kc _ _ h4, kc _ _ h5, kc _ _ h6⟩
set_option maxHeartbeats 8000000 in
set_option maxRecDepth 100000 in
theorem cl80 (w0 : World) (A : Option Addr) (cL : Nat) (l : List S33) (hr : Kd.C k33 w0 A l.length l) (B : Nat) (g2 : Nat) (lb2 : Array Value) (eg2 : ∀ args w, (callFunc g2 args).run Try.prog w = .ok (.enter g2 args) w) (cc : S33 → S33 → Int) (W : World) (hW : Below w0.heap.size w0 W)
    (hb0 : W.cell? ⟨B, 0, none⟩ = some (.slice A l.length cL)) (hb1 : W.cell? ⟨B + 1, 0, none⟩ = some (.func (.func g2) #[] lb2))
    (hcmp : ∀ W', Below W.heap.size W W' → ∀ x y : S33, Calls Try.prog g2 (#[.agg #[.int .i64 x.f0, .int .i64 x.f1], .agg #[.int .i64 y.f0, .int .i64 y.f1]] ++ lb2) W' fun e w' => e = .returned (.int .i64 (cc x y)) ∧ Below W'.heap.size W' w')
    (i k : Nat) (hi : i < l.length) (hk : k < l.length) :
    Calls Try.prog 80 #[.int .i64 i, .int .i64 k, .pointer (some ⟨B + 1, 0, none⟩), .pointer (some ⟨B, 0, none⟩)] W fun e w' => e = .returned (.int .i64 (cc (l.getD i z33) (l.getD k z33))) ∧ Below W.heap.size W w' := by
  have hu33 := Try.underlying33
  have mixed : Try.prog.follows .mixedOrders = true := by kernel_rfl
  have hiz : (i : Int) < (l.length : Int) := by omega
  have hkz : (k : Int) < (l.length : Int) := by omega
  obtain ⟨ad, e0, hx0, hx1⟩ := at_T33 hr (i : Int) (by omega) hiz
  obtain ⟨ad2, e2, hy0, hy1⟩ := at_T33 hr (k : Int) (by omega) hkz
  cases e0
  cases e2
  rw [show rd_T33 l (i : Int) = l.getD i z33 by unfold rd_T33; simp] at hx0 hx1
  rw [show rd_T33 l (k : Int) = l.getD k z33 by unfold rd_T33; simp] at hy0 hy1
  simp only [Int.toNat_natCast] at hx0 hx1 hy0 hy1
  have hc := fun W' hW' => hcmp W' hW' (l.getD i z33) (l.getD k z33)
  generalize cc (l.getD i z33) (l.getD k z33) = cv at *
  generalize l.getD i z33 = x at *
  generalize l.getD k z33 = y at *
  obtain ⟨x0, x1⟩ := x
  obtain ⟨y0, y1⟩ := y
  simp only at hx0 hx1 hy0 hy1 hc
  have kw : ∀ p v, w0.cell? p = some v → W.cell? p = some v := fun p v h => (hW.cell (World.block_lt_of_cell? w0 _ h)).trans h
  have HK := Aside0.mk (show Below W.heap.size W W ∧ W.cell? ⟨B, 0, none⟩ = some (.slice (some ad) l.length cL) ∧ W.cell? ⟨B + 1, 0, none⟩ = some (.func (.func g2) #[] lb2) ∧ W.cell? _ = some (.int .i64 x0) ∧ W.cell? _ = some (.int .i64 x1) ∧ W.cell? _ = some (.int .i64 y0) ∧ W.cell? _ = some (.int .i64 y1) from ⟨Below.refl _ _, hb0, hb1, kw _ _ hx0, kw _ _ hx1, kw _ _ hy0, kw _ _ hy1⟩)
  have HC := Aside0.mk hc
  clear hcmp hb0 hb1 hx0 hx1 hy0 hy1 kw hr hc
  go_enter Try.func80, Try.ntmps80
  go_wp2
  go_region_held3 (fun w' => Below W.heap.size W w' ∧ w'.cell? ⟨B, 0, none⟩ = some (.slice (some ad) l.length cL) ∧ w'.cell? ⟨B + 1, 0, none⟩ = some (.func (.func g2) #[] lb2) ∧ w'.cell? (ad.add (i * 2)) = some (.int .i64 x0) ∧ w'.cell? ⟨(ad.add (i * 2)).block, (ad.add (i * 2)).off + 1, none⟩ = some (.int .i64 x1) ∧ w'.cell? (ad.add (k * 2)) = some (.int .i64 y0) ∧ w'.cell? ⟨(ad.add (k * 2)).block, (ad.add (k * 2)).off + 1, none⟩ = some (.int .i64 y1))
    (first | exact keep6 (by first | assumption | exact HK.out) (by first | assumption | exact below_drew1 (Below.refl _ _)))
    (first | (go_at_fn g2; refine (HC.out _ (And.left (by assumption))).mono ?_; rintro e w' ⟨rfl, hb'⟩))
  rename_i hH
  have HF := Aside0.mk hH.1
  clear hH
  go_wp2
  go_ret
  exact ⟨by first | rfl | (simp; done), HF.out⟩
/-- The index that a value holds. -/
def ixV : Value → Nat
  | .int _ n => n.toNat
  | _ => 0
def ciV (cc : S33 → S33 → Int) (l : List S33) (x y : Value) : Int := cc (l.getD (ixV x) z33) (l.getD (ixV y) z33)
/-- A row of which the first k places are numbered. -/
def fillV (n k : Nat) : List Value := (List.range n).map fun i => if i < k then .int .i64 i else .int .i64 0
theorem fillV_length (n k : Nat) : (fillV n k).length = n := by simp [fillV]
theorem fillV_zero (n : Nat) : fillV n 0 = List.replicate n (.int .i64 0) := by
  apply List.ext_getElem
  · simp [fillV]
  · intro i h1 h2; simp [fillV]
theorem fillV_set (n k : Nat) (h : k < n) : (fillV n k).set k (.int .i64 k) = fillV n (k + 1) := by
  apply List.ext_getElem
  · simp [fillV]
  · intro i h1 h2
    rw [List.getElem_set]
    simp only [fillV, List.getElem_map, List.getElem_range]
    by_cases e : k = i
    · subst e; simp
    · rw [if_neg e]
      by_cases z : i < k
      · rw [if_pos z, if_pos (by omega)]
      · rw [if_neg z, if_neg (by omega)]
def ixP (n : Nat) (v : Value) : Prop := ∃ i : Nat, i < n ∧ v = .int .i64 i
theorem fillV_all (n : Nat) : ∀ x ∈ fillV n n, ixP n x ∧ ∃ m : Int, x = .int .i64 m := by
  intro x hx
  simp only [fillV, List.mem_map, List.mem_range] at hx
  obtain ⟨i, hi, rfl⟩ := hx
  rw [if_pos hi]
  exact ⟨⟨i, hi, rfl⟩, i, rfl⟩
theorem sw62.sort (w : World) (A : Option Addr) (cL : Nat) (l : List S33) (hr : Kd.C k33 w A l.length l) (hl : 1 ≤ l.length) (hl8 : l.length ≤ 8) (g2 : Nat) (lb2 : Array Value) (eg2 : ∀ args w, (callFunc g2 args).run Try.prog w = .ok (.enter g2 args) w) (cc : S33 → S33 → Int)
    (hcmp : ∀ W', Below w.heap.size w W' → ∀ x y : S33, Calls Try.prog g2 (#[.agg #[.int .i64 x.f0, .int .i64 x.f1], .agg #[.int .i64 y.f0, .int .i64 y.f1]] ++ lb2) W' fun e w' => e = .returned (.int .i64 (cc x y)) ∧ Below W'.heap.size W' w')
    (wm : World) (hwm : Below w.heap.size w wm) (B gb : Nat) (hB : w.heap.size ≤ B) (hg : B + 2 ≤ gb)
    (hb0 : wm.cell? ⟨B, 0, none⟩ = some (.slice A l.length cL)) (hb1 : wm.cell? ⟨B + 1, 0, none⟩ = some (.func (.func g2) #[] lb2)) (wr : World) (hS : SoW (B + 2) gb 3 wm (fillV l.length l.length) wr) :
    Calls Try.prog 79 #[.slice (some ⟨gb, 0, none⟩) l.length l.length, .func (.func 80) #[] #[.pointer (some ⟨B + 1, 0, none⟩), .pointer (some ⟨B, 0, none⟩)]] wr fun e w' => e = .returned (.tuple #[]) ∧ SoW (B + 2) gb 3 wr (insI (ciV cc l) (l.length - 1) 1 (fillV l.length l.length)) w' := by
  have eg : ∀ args w, (callFunc 80 args).run Try.prog w = .ok (.enter 80 args) w := enters_of Try.func80 (by kernel_rfl) rfl
  have h := sort79.calls (B + 2) (ciV cc l) 80 #[.pointer (some ⟨B + 1, 0, none⟩), .pointer (some ⟨B, 0, none⟩)] (ixP l.length) eg wr (fun W x y hW hx hy => by
    obtain ⟨i, hi, rfl⟩ := hx
    obtain ⟨k, hk, rfl⟩ := hy
    have h1 : Below (B + 2) wm W := hS.2.1.trans hW
    have kc : ∀ j v, j < 2 → wm.cell? ⟨B + j, 0, none⟩ = some v → W.cell? ⟨B + j, 0, none⟩ = some v := fun j v hj h => (h1.cell (p := ⟨B + j, 0, none⟩) (by show B + j < B + 2; omega)).trans h
    have h2 : Below w.heap.size w W := hwm.trans (h1.mono (by omega))
    have := cl80 w A cL l hr B g2 lb2 eg2 cc W h2 (kc 0 _ (by omega) hb0) (kc 1 _ (by omega) hb1) (fun W' hW' => hcmp W' (h2.trans (hW'.mono h2.size))) i k hi hk
    simpa [ciV, ixV] using this) gb hg (fillV l.length l.length) (by rw [fillV_length]; omega) (by rw [fillV_length]; exact hl) (fillV_all l.length) l.length hS.2.2.1
  rw [fillV_length] at h
  exact h
theorem sw62.three (w : World) (v0 v1 : Value) (t0 t1 : TypeId) (n : Nat) : Below w.heap.size w (((w.alloc (.cells #[v0] t0)).alloc (.cells #[v1] t1)).alloc (.cells (madeCells #[.int .i64 0] n) 3)) ∧ (((w.alloc (.cells #[v0] t0)).alloc (.cells #[v1] t1)).alloc (.cells (madeCells #[.int .i64 0] n) 3)).cell? ⟨w.heap.size, 0, none⟩ = some v0 ∧ (((w.alloc (.cells #[v0] t0)).alloc (.cells #[v1] t1)).alloc (.cells (madeCells #[.int .i64 0] n) 3)).cell? ⟨w.heap.size + 1, 0, none⟩ = some v1 ∧ SoW (w.heap.size + 2) (w.heap.size + 2) 3 (((w.alloc (.cells #[v0] t0)).alloc (.cells #[v1] t1)).alloc (.cells (madeCells #[.int .i64 0] n) 3)) (fillV n 0) (((w.alloc (.cells #[v0] t0)).alloc (.cells #[v1] t1)).alloc (.cells (madeCells #[.int .i64 0] n) 3)) := by
  refine ⟨below_alloc (below_alloc (below_alloc (Below.refl _ _) _) _) _, ?_, ?_, Nat.le_refl _, Below.refl _ _, ?_, fun _ _ _ => rfl⟩
  · rw [World.cell?_alloc_lt _ _ _ (by simp [World.size_alloc]; omega), World.cell?_alloc2_first]; rfl
  · rw [World.cell?_alloc_lt _ _ _ (by simp [World.size_alloc]), World.cell?_alloc2_new]; rfl
  · have h := heap_alloc_new ((w.alloc (.cells #[v0] t0)).alloc (.cells #[v1] t1)) (.cells (madeCells #[.int .i64 0] n) 3)
    rw [World.size_alloc, World.size_alloc] at h
    have e : madeCells #[.int .i64 0] n = (fillV n 0).toArray := by
      apply Array.ext
      · simp [madeCells, fillV_length]
      · intro i h1 h2; simp [madeCells, fillV, Nat.mod_one]
    rw [← e]; exact h
set_option maxHeartbeats 8000000 in
set_option maxRecDepth 100000 in
theorem sw62.calls (w : World) (A : Option Addr) (cL : Nat) (l : List S33) (hr : Kd.C k33 w A l.length l) (hl : 1 ≤ l.length) (hl8 : l.length ≤ 8) (g2 : Nat) (lb2 : Array Value) (eg2 : ∀ args w, (callFunc g2 args).run Try.prog w = .ok (.enter g2 args) w) (cc : S33 → S33 → Int)
    (hcmp : ∀ W', Below w.heap.size w W' → ∀ x y : S33, Calls Try.prog g2 (#[.agg #[.int .i64 x.f0, .int .i64 x.f1], .agg #[.int .i64 y.f0, .int .i64 y.f1]] ++ lb2) W' fun e w' => e = .returned (.int .i64 (cc x y)) ∧ Below W'.heap.size W' w') :
    Calls Try.prog 62 #[.slice A l.length cL, .func (.func g2) #[] lb2] w fun e w' => e = .returned (.slice (some ⟨w.heap.size + 2, 0, none⟩) l.length l.length) ∧ w'.heap[w.heap.size + 2]? = some (.cells (insI (ciV cc l) (l.length - 1) 1 (fillV l.length l.length)).toArray 3 (0, 0)) ∧ Below w.heap.size w w' := by
  have HC := Aside0.mk (sw62.sort w A cL l hr hl hl8 g2 lb2 eg2 cc hcmp)
  clear hcmp hr eg2
  have hmk := print_make (P := Try.prog) 38 3 .i64 8 Try.underlying38 (by kernel_rfl) (by omega) l.length (by omega)
  generalize insI (ciV cc l) (l.length - 1) 1 (fillV l.length l.length) = r at *
  go_enter Try.func62, Try.ntmps62
  go_wp2
  have T := sw62.three w (.slice A l.length cL) (.func (.func g2) #[] lb2) 25 71 l.length
  generalize ((w.alloc (.cells #[.slice A l.length cL] 25)).alloc (.cells #[.func (.func g2) #[] lb2] 71)).alloc (.cells (madeCells #[.int .i64 0] l.length) 3) = wm at T ⊢
  obtain ⟨t1, t2, t3, t4⟩ := T
  have HC2 := Aside0.mk (HC.out wm t1 w.heap.size (w.heap.size + 2) (Nat.le_refl _) (Nat.le_refl _) t2 t3)
  have S0 := Aside0.mk t4
  have T1 := Aside0.mk t1
  clear HC t1 t2 t3 t4 hmk
  rw [show w.heap.size + 1 + 1 = w.heap.size + 2 by omega]
  obtain ⟨B, hB⟩ : ∃ q, w.heap.size = q := ⟨_, rfl⟩
  rw [hB] at HC2 S0 ⊢
  go_loopg [12] l.length (fun gg v12 wr => ∃ kk : Nat, v12 = .int .i64 kk ∧ kk ≤ l.length ∧ l.length - kk ≤ gg ∧ Aside0 (SoW (B + 2) (B + 2) 3 wm (fillV l.length kk) wr))
  case atStart => exact ⟨0, by go_num, by omega, by omega, S0⟩
  case round =>
    clear S0
    obtain ⟨kk, rfl, hkk, hgg, S1⟩ := hrel
    by_cases hlt : kk < l.length
    · have hltz : (kk : Int) < (l.length : Int) := by omega
      have c0 := S1.out.at kk (by rw [fillV_length]; exact hlt)
      have f0 := S1.out.fr kk
      have S2 := Aside0.mk (fillV_set l.length kk hlt ▸ S1.out.set kk (.int .i64 kk))
      clear S1 HC2
      go_wp2
      go_roundg (l.length - (kk + 1))
      case measure => omega
      case rel => exact ⟨kk + 1, by go_num, by omega, by omega, S2⟩
    · have hltz : ¬ (kk : Int) < (l.length : Int) := by omega
      have e : kk = l.length := by omega
      have HS := Aside0.mk (e ▸ S1.out)
      have HC3 := Aside0.mk (HC2.out wr HS.out)
      clear S1 HC2
      go_wp2_with (go_at_call 79; refine HC3.out.mono ?_; rintro e w1 ⟨rfl, hS⟩)
      have HQ := Aside0.mk hS
      clear hS
      go_wp2
      go_ret
      refine ⟨by rw [hB]; rfl, by rw [hB]; exact HQ.out.2.2.1, ?_⟩
      exact T1.out.trans ((HS.out.2.1.trans HQ.out.2.1).mono (by omega))

def cmp3 (a b : Int) : Int := if a < b then -1 else if a > b then 1 else 0
theorem cmp3_is (a b : Int) : cmp_Compare_int.f a b = some (cmp3 a b) := by
  unfold cmp_Compare_int.f cmp_isNaN_int.f cmp3
  simp only [bne_self_eq_false, Option.bind_some, Bool.false_eq_true, if_false]
  split
  · rfl
  · split <;> rfl
theorem keep4 {w0 W W' : World} {a1 a2 a3 a4 : Addr} {v1 v2 v3 v4 : Value} (h : Below w0.heap.size w0 W ∧ W.cell? a1 = some v1 ∧ W.cell? a2 = some v2 ∧ W.cell? a3 = some v3 ∧ W.cell? a4 = some v4) (hb : Below W.heap.size W W') :
    Below w0.heap.size w0 W' ∧ W'.cell? a1 = some v1 ∧ W'.cell? a2 = some v2 ∧ W'.cell? a3 = some v3 ∧ W'.cell? a4 = some v4 := by
  have kc : ∀ p v, W.cell? p = some v → W'.cell? p = some v := fun p v h => (hb.cell (World.block_lt_of_cell? W _ h)).trans h
  obtain ⟨h0, h1, h2, h3, h4⟩ := h
  exact ⟨h0.trans (hb.mono h0.size), kc _ _ h1, kc _ _ h2, kc _ _ h3, kc _ _ h4⟩
theorem two66 (W : World) (a b c d : Int) :
    Below W.heap.size W ((W.alloc (.cells #[.int .i64 a, .int .i64 b] 33)).alloc (.cells #[.int .i64 c, .int .i64 d] 33)) ∧
    ((W.alloc (.cells #[.int .i64 a, .int .i64 b] 33)).alloc (.cells #[.int .i64 c, .int .i64 d] 33)).cell? ⟨W.heap.size, 0, none⟩ = some (.int .i64 a) ∧ ((W.alloc (.cells #[.int .i64 a, .int .i64 b] 33)).alloc (.cells #[.int .i64 c, .int .i64 d] 33)).cell? ⟨W.heap.size, 1, none⟩ = some (.int .i64 b) ∧ ((W.alloc (.cells #[.int .i64 a, .int .i64 b] 33)).alloc (.cells #[.int .i64 c, .int .i64 d] 33)).cell? ⟨W.heap.size + 1, 0, none⟩ = some (.int .i64 c) ∧ ((W.alloc (.cells #[.int .i64 a, .int .i64 b] 33)).alloc (.cells #[.int .i64 c, .int .i64 d] 33)).cell? ⟨W.heap.size + 1, 1, none⟩ = some (.int .i64 d) := by
  refine ⟨below_alloc (below_alloc (Below.refl W.heap.size W) _) _, ?_, ?_, ?_, ?_⟩
  · rw [World.cell?_alloc2_first]; rfl
  · rw [World.cell?_alloc2_first]; rfl
  · rw [World.cell?_alloc2_new]; rfl
  · rw [World.cell?_alloc2_new]; rfl
theorem row2 (W : World) (a b : Int) : Kd.C (Kd.int .i64) (W.alloc (.cells #[.int .i64 a, .int .i64 b] 3)) (some ⟨W.heap.size, 0, none⟩) 2 [a, b] := by
  refine ⟨rfl, by omega, fun _ => ⟨⟨W.heap.size, 0, none⟩, rfl, fun j p hp => ⟨[.int .i64 p], rfl, rfl, fun i u hi => ?_⟩⟩⟩
  have hj : j < 2 := by rcases Nat.lt_or_ge j 2 with z | z; exact z; rw [List.getElem?_eq_none (by simpa using z)] at hp; simp at hp
  have hi0 : i = 0 := by rcases Nat.lt_or_ge i 1 with z | z; omega; rw [List.getElem?_eq_none (by simpa using z)] at hi; simp at hi
  subst hi0
  have hm := World.cell?_alloc_mark W #[.int .i64 a, .int .i64 b] 3 (0, 0) j
  have e : (⟨W.heap.size, 0, none⟩ : Addr).add (j * (Kd.int .i64).sz + 0) = ⟨W.heap.size, j, none⟩ := by
    rcases (show j = 0 ∨ j = 1 by omega) with rfl | rfl <;> rfl
  rw [e]
  refine hm.trans ?_
  have h1 : j = 0 ∨ j = 1 := by omega
  rcases h1 with rfl | rfl <;> simp_all
theorem or2_is (k : Nat) (a b : Int) (hk : 5 ≤ k) : cmp_Or_int.f k [a, b] = some (if a = 0 then b else a) := by
  obtain ⟨k, rfl⟩ : ∃ m, k = m + 3 := ⟨k - 3, by omega⟩
  unfold cmp_Or_int.f
  simp [cmp_Or_int.l0, rd, wrap64]
  by_cases h : a = 0
  · by_cases h2 : b = 0 <;> simp [h, h2]
  · simp [h]
def lexV (x y : S33) : Int := if cmp3 x.f1 y.f1 = 0 then cmp3 x.f0 y.f0 else cmp3 x.f1 y.f1
set_option maxHeartbeats 8000000 in
set_option maxRecDepth 100000 in
theorem cl66 (W : World) (x y : S33) :
    Calls Try.prog 66 (#[.agg #[.int .i64 x.f0, .int .i64 x.f1], .agg #[.int .i64 y.f0, .int .i64 y.f1]] ++ #[]) W fun e w' => e = .returned (.int .i64 (lexV x y)) ∧ Below W.heap.size W w' := by
  have hu33 := Try.underlying33
  have mixed : Try.prog.follows .mixedOrders = true := by kernel_rfl
  obtain ⟨a, b⟩ := x
  obtain ⟨c, d⟩ := y
  have HK0 := two66 W a b c d
  have hc1 := Aside0.mk (cmp3_is b d)
  have hc2 := Aside0.mk (cmp3_is a c)
  have hc3 := Aside0.mk (or2_is 5 (cmp3 b d) (cmp3 a c) (by omega))
  unfold lexV
  simp only
  generalize cmp3 b d = p1 at *
  generalize cmp3 a c = p2 at *
  generalize (if p1 = 0 then p2 else p1) = cv at *
  show Calls Try.prog 66 #[.agg #[.int .i64 a, .int .i64 b], .agg #[.int .i64 c, .int .i64 d]] W _
  go_enter Try.func66, Try.ntmps66
  go_wp2
  generalize ((W.alloc (.cells #[.int .i64 a, .int .i64 b] 33)).alloc (.cells #[.int .i64 c, .int .i64 d] 33)) = W2 at HK0 ⊢
  have HK := Aside0.mk HK0
  clear HK0
  go_region_held3 (fun w' => Below W.heap.size W w' ∧ w'.cell? ⟨W.heap.size, 0, none⟩ = some (.int .i64 a) ∧ w'.cell? ⟨W.heap.size, 1, none⟩ = some (.int .i64 b) ∧ w'.cell? ⟨W.heap.size + 1, 0, none⟩ = some (.int .i64 c) ∧ w'.cell? ⟨W.heap.size + 1, 1, none⟩ = some (.int .i64 d))
    (first | exact keep4 (by first | assumption | exact HK.out) (by first | assumption | exact below_drew1 (Below.refl _ _) | exact below_alloc (Below.refl _ _) _))
    (first | (go_at_call 64; (with_reducible refine (cmp_Compare_int.calls b d _ _ hc1.out).mono ?_); rintro e w' ⟨rfl, hd⟩; have hb' := Drawn0.below hd) | (go_at_call 64; (with_reducible refine (cmp_Compare_int.calls a c _ _ hc2.out).mono ?_); rintro e w' ⟨rfl, hd⟩; have hb' := Drawn0.below hd) | (go_at_call 67; refine (cmp_Or_int.calls 5 _ 2 [p1, p2] _ _ (row2 _ p1 p2) (Nat.le_refl 2) hc3.out).mono ?_; rintro e w' ⟨rfl, hd⟩; have hb' := Drawn0.below hd))
  rename_i hH
  have HF := Aside0.mk hH.1
  clear hH hd hb'
  go_wp2
  go_ret
  exact ⟨by first | rfl | (simp; done), HF.out⟩
def isI (v : Value) : Prop := ∃ m : Int, v = .int .i64 m
theorem insJ_all (c : Value → Value → Int) (Q : Value → Prop) : ∀ (j : Nat) (l : List Value), j < l.length → (∀ x ∈ l, Q x) → (insJ c j l).length = l.length ∧ ∀ x ∈ insJ c j l, Q x := by
  intro j; induction j with
  | zero => intro l _ h; exact ⟨rfl, h⟩
  | succ j ih =>
    intro l hj h
    simp only [insJ]
    split
    · have := ih (swpV l j) (by rw [swpV_length]; omega) (swpV_all Q l j hj h)
      exact ⟨this.1.trans (swpV_length l j), this.2⟩
    · exact ⟨rfl, h⟩
theorem insI_all (c : Value → Value → Int) (Q : Value → Prop) : ∀ (m i : Nat) (l : List Value), i + m ≤ l.length → (∀ x ∈ l, Q x) → (insI c m i l).length = l.length ∧ ∀ x ∈ insI c m i l, Q x := by
  intro m; induction m with
  | zero => intro i l _ h; exact ⟨rfl, h⟩
  | succ m ih =>
    intro i l hi h
    have := insJ_all c Q i l (by omega) h
    have h2 := ih (i + 1) (insJ c i l) (by omega) this.2
    simp only [insI]
    exact ⟨h2.1.trans this.1, h2.2⟩
/-- The number that a value holds. -/
def nuV : Value → Int
  | .int _ n => n
  | _ => 0
def orderV (cc : S33 → S33 → Int) (l : List S33) : List Int := (insI (ciV cc l) (l.length - 1) 1 (fillV l.length l.length)).map nuV
theorem orderV_is (cc : S33 → S33 → Int) (l : List S33) (hl : 1 ≤ l.length) : encs (Value.int .i64) (orderV cc l) = insI (ciV cc l) (l.length - 1) 1 (fillV l.length l.length) ∧ (orderV cc l).length = l.length := by
  have h := insI_all (ciV cc l) isI (l.length - 1) 1 (fillV l.length l.length) (by rw [fillV_length]; omega) (fun x hx => (fillV_all l.length x hx).2)
  unfold orderV encs
  refine ⟨?_, by rw [List.length_map, h.1, fillV_length]⟩
  rw [List.map_map]
  have e : ∀ (r : List Value), (∀ x ∈ r, isI x) → r.map (Value.int .i64 ∘ nuV) = r := by
    intro r; induction r with
    | nil => intro _; rfl
    | cons x xs ih =>
      intro hx
      obtain ⟨m, rfl⟩ := hx x (by simp)
      rw [List.map_cons, ih (fun y hy => hx y (by simp [hy]))]; rfl
  exact e _ h.2
theorem orderV_R (cc : S33 → S33 → Int) (l : List S33) (hl : 1 ≤ l.length) (hl8 : l.length ≤ 8) (w' : World) (base g : Nat) (hg : base ≤ g) (h : w'.heap[g]? = some (.cells (insI (ciV cc l) (l.length - 1) 1 (fillV l.length l.length)).toArray 3 (0, 0))) :
    Kd.R (Kd.int .i64) 3 w' base (fun _ => True) (.slice (some ⟨g, 0, none⟩) l.length l.length) (orderV cc l) := by
  obtain ⟨e1, e2⟩ := orderV_is cc l hl
  refine Kd.R_of_own ?_ (fun _ _ => trivial)
  rw [e1, e2]
  have e3 : (insI (ciV cc l) (l.length - 1) 1 (fillV l.length l.length)).length = l.length := by rw [← e1]; simp [encs, e2]
  refine ⟨by rw [e3]; omega, .inr ⟨g, l.length, _, rfl, hg, h, Nat.le_refl _, by simp [maxLen]; omega, by simp [e3], ?_⟩⟩
  simp only [Nat.mul_one]
  exact List.take_of_length_le (by rw [e3]; exact Nat.le_refl _)
def impl_LastOrder.f (l0 : List S33) : Option (List Int × Bool) := (impl_AreWalkers.f l0).bind fun t => if t = true then some (orderV lexV l0, true) else some ([], false)
set_option maxHeartbeats 8000000 in
set_option maxRecDepth 100000 in
theorem impl_LastOrder.calls (A0 : Option Addr) (c0 : Nat) (l0 : List (S33)) (r1 : List Int) (r2 : Bool) (w : World) (hr0 : Kd.C k33 w A0 l0.length l0) (hc0 : l0.length ≤ c0) (h : impl_LastOrder.f l0 = some (r1, r2)) :
    Calls Try.prog 31 #[.slice A0 l0.length c0] w fun e w' => ∃ v0_ : Value, e = .returned (.tuple #[v0_, .bool r2]) ∧ Kd.R (Kd.int .i64) 3 w' w.heap.size (fun _ => True) v0_ r1 ∧ Below w.heap.size w w' := by
  unfold impl_LastOrder.f at h
  obtain ⟨t, ht, h⟩ := Option.bind_eq_some_iff.mp h
  have HA := Aside0.mk (impl_AreWalkers.calls A0 c0 l0 t w hr0 hc0 ht)
  cases t with
  | false =>
    rw [if_neg (by decide)] at h
    simp only [Option.some.injEq, Prod.mk.injEq] at h
    obtain ⟨rfl, rfl⟩ := h
    clear ht hr0
    go_enter Try.func31, Try.ntmps31
    go_wp2_with (go_at_call 15; refine HA.out.mono ?_; rintro e w' ⟨rfl, hb'⟩)
    go_ret2
    exact ⟨_, rfl, Kd.R_nil _ _ _ _ _, hb'⟩
  | true =>
    rw [if_pos rfl] at h
    simp only [Option.some.injEq, Prod.mk.injEq] at h
    obtain ⟨rfl, rfl⟩ := h
    have hn : 1 ≤ l0.length ∧ l0.length ≤ 8 := by
      unfold impl_AreWalkers.f at ht
      split at ht
      · simp only [Option.some.injEq, Bool.and_eq_true, decide_eq_true_eq] at ht; omega
      · simp at ht
    have eg66 : ∀ args w, (callFunc 66 args).run Try.prog w = .ok (.enter 66 args) w := enters_of Try.func66 (by kernel_rfl) rfl
    have H62 := Aside0.mk (show ∀ W : World, Below w.heap.size w W → Calls Try.prog 62 #[.slice A0 l0.length c0, .func (.func 66) #[] #[]] W fun e w' => ∃ v, e = .returned v ∧ Kd.R (Kd.int .i64) 3 w' w.heap.size (fun _ => True) v (orderV lexV l0) ∧ Below w.heap.size w w' from fun W hW =>
      (sw62.calls W A0 c0 l0 (Kd.C_below hr0 hW) hn.1 hn.2 66 _ eg66 lexV (fun W' hW' x y => cl66 W' x y)).mono fun e w' ⟨he, hh, hb⟩ => ⟨_, he, orderV_R _ l0 hn.1 hn.2 w' w.heap.size (W.heap.size + 2) (by have := hW.size; omega) hh, hW.trans (hb.mono hW.size)⟩)
    clear ht hr0 eg66
    generalize orderV lexV l0 = r at *
    go_enter Try.func31, Try.ntmps31
    go_wp2_with (first | (go_at_call 15; refine HA.out.mono ?_; rintro e w1 ⟨rfl, hb1⟩) | (go_at_call 62; refine (H62.out _ hb1).mono ?_; rintro e w3 ⟨v, rfl, hR, hb3⟩))
    go_ret2
    exact ⟨_, rfl, hR, hb3⟩

end Go.Proofs.Ytfeabflbgendbaa.OFnExactLastOrder
