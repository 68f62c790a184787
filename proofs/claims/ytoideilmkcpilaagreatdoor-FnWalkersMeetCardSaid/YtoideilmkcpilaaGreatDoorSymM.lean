/- The stable sort of rows of numbers, walked. -/
import Derived.Test.YtoideilmkcpilaaGreatDoorProg
import Derived.Below
import Derived.Deep.Draws
import Derived.Deep.AppendLies
import Derived.Maps.AppendAt
import Derived.OwnWalk
import Derived.Laws.BytesArg
import Derived.Laws.MakeOwn
import Derived.Laws.OwnMore
import Derived.Deep.OwnRows
import Derived.Tactics
import Derived.Lib.ConvBytes
import Derived.Laws.Slices
import Derived.WalkKit
import Derived.KernelRfl
import Derived.RowKit3
import Derived.Deep.LoopGhost
import Derived.Deep.QuietTactic
import Derived.BigQuiet
import Derived.WideLaws
import Derived.Deep.DeepCutAuto
import Derived.Deep.CutBlock
import Derived.Deep.RegionHeld3
import Derived.Laws.Rows
import Derived.Lib.AppendStr
import Derived.ArgAppend
import Derived.Laws.IdiomCopy
import Derived.OrdersHeld
import Derived.Laws.BitsLemmas
import Derived.RowKit
import Derived.Shelf.Abstract
import Derived.Deep.RegionHeld3
import Derived.Shelf.RegionOpenPlain
import Derived.BigQuiet
import Derived.BigRegion
import Derived.WalkKit
import Derived.Deep.LoopGhost
import Derived.Deep.DeepCutAuto
import Derived.Test.YtoideilmkcpilaaGreatDoorWWords
import Derived.Test.YtoideilmkcpilaaGreatDoorWLast
import Derived.Test.YtoideilmkcpilaaGreatDoorWTab
import Derived.Test.YtoideilmkcpilaaGreatDoorWQPut
import Derived.Test.YtoideilmkcpilaaGreatDoorWApart
import Derived.Test.YtoideilmkcpilaaGreatDoorWArr
import Derived.Test.YtoideilmkcpilaaGreatDoorWZeros
import Derived.Test.YtoideilmkcpilaaGreatDoorWFoot
import Derived.Test.YtoideilmkcpilaaGreatDoorWKept
import Derived.Test.YtoideilmkcpilaaGreatDoorWShare
import Derived.Test.YtoideilmkcpilaaGreatDoorWN
import Derived.Test.YtoideilmkcpilaaGreatDoorWEqStruct
import Derived.Test.YtoideilmkcpilaaGreatDoorWRepsOne
import Derived.Test.YtoideilmkcpilaaGreatDoorWNEv
import Derived.Test.YtoideilmkcpilaaGreatDoorWMore
import Derived.Test.YtoideilmkcpilaaGreatDoorSymW
import Derived.Shelf.Abstract
import Derived.Deep.RegionHeld3
import Derived.Shelf.RegionOpenPlain
import Derived.BigQuiet
import Derived.BigRegion
import Derived.WalkKit
import Derived.Deep.LoopGhost
import Derived.Deep.DeepCutAuto
namespace Go.Proofs.YtoideilmkcpilaaGreatDoor.SymW
open Go.RowKit Go.Proofs.YtoideilmkcpilaaGreatDoorW.PrintWords Go.Proofs.YtoideilmkcpilaaGreatDoorW.PrintLast Go.Proofs.YtoideilmkcpilaaGreatDoorW.PrintMore
set_option linter.unusedVariables false
set_option linter.unusedSimpArgs false
set_option maxHeartbeats 8000000 in
set_option maxRecDepth 100000 in
theorem sym1.calls (base gb cap : Nat) (tl : List Value) (w0 : World) (c : Value → Value → Int) (g : Nat) (lb : Array Value) (P : Value → Prop) (R : Value → Value → Prop) (tr : ∀ x y z, R x y → R y z → R x z) (eg : ∀ args w, (callFunc g args).run Tryz.prog w = .ok (.enter g args) w)
    (hp : ∀ W l' x y, SoR base gb 53 tl w0 l' W → P x → P y → Calls Tryz.prog g (#[x, y] ++ lb) W fun e w' => e = .returned (.int .i64 (c x y)) ∧ Below W.heap.size W w')
    (l : List Value) (hl : l.length ≤ 1000) (hP : ∀ x ∈ l, PS P x) (a m b : Nat) (za zm zb : Int) (hza : za = (a : Int)) (hzm : zm = (m : Int)) (hzb : zb = (b : Int)) (one : m = a + 1) (ham : a < m) (hmb : m < b) (hbl : b ≤ l.length)
    (h1 : SymP.Srt R undef l a m) (h2 : SymP.Srt R undef l m b) (hC : SymP.Crs c R undef l a m b) (w : World) (hS : SoR base gb 53 tl w0 l w) :
    Calls Tryz.prog 93 #[.slice (some ⟨gb, 0, none⟩) l.length cap, .int .i64 za, .int .i64 zm, .int .i64 zb, .func (.func g) #[] lb] w fun e w' => e = .returned (.tuple #[]) ∧ Lvs base gb 53 tl w0 (Srtd R l a b) w' := by
  subst hza hzm hzb
  have HP := jb.mk hp
  have S0 := jb.mk hS
  have A0 := jb.mk hP
  have HC := jb.mk hC
  have TR := jb.mk tr
  have H1 := jb.mk h1
  have H2 := jb.mk h2
  clear hp hS hP h1 h2 hC tr
  have mixed : Tryz.prog.follows .mixedOrders = true := by kernel_rfl
  have t1 : (((m : Int) - (a : Int)) == 1) = true := beq_iff_eq.mpr (by omega)
  have ONE := jb.mk one
  clear one
  go_enter Tryz.func93, Tryz.ntmps93
  go_wp2_with fail
  go_loopg [10, 11] (b - m) (fun g1 vi vj wr => ∃ (i j : Nat), vi = .int .i64 i ∧ vj = .int .i64 j ∧ m ≤ i ∧ i ≤ j ∧ j ≤ b ∧ j - i ≤ g1 ∧ jb (SoR base gb 53 tl w0 l wr) ∧ jb (i = m ∨ R (l.getD (i - 1) undef) (l.getD a undef)) ∧ jb (j = b ∨ R (l.getD a undef) (l.getD j undef)))
  case atStart => exact ⟨m, b, rfl, rfl, by omega, by omega, by omega, by omega, S0, ⟨.inl rfl⟩, ⟨.inl rfl⟩⟩
  case round =>
    clear S0
    obtain ⟨i, j, rfl, rfl, hmi, hij, hjb, hg1, S1, I1, J1⟩ := hrel
    by_cases hlt : i < j
    · have hltz : (i : Int) < (j : Int) := by omega
      obtain ⟨h, hh⟩ : ∃ h : Nat, h = (i + j) / 2 := ⟨_, rfl⟩
      have hq : ((i : Int) + (j : Int)) / 2 = (h : Int) := by omega
      have hih : i ≤ h := by omega
      have hhj : h < j := by omega
      clear hh
      have DC := HC.out a h (Nat.le_refl _) ham (by omega) (by omega)
      have p_h : (0 : Int) ≤ (h : Int) := by omega
      have b_h : (h : Int) < (l.length : Int) := by omega
      have r_h : IntKind.i64.wrap (h : Int) = (h : Int) := by rw [IntKind.wrap_i64]; omega
      have p_a : (0 : Int) ≤ (a : Int) := by omega
      have b_a : (a : Int) < (l.length : Int) := by omega
      have r_a : IntKind.i64.wrap (a : Int) = (a : Int) := by rw [IntKind.wrap_i64]; omega
      have c1 := S1.out.at h (by omega)
      have c0 := S1.out.at a (by omega)
      have a1 := A0.out _ (getD_in l h (by omega))
      have a0 := A0.out _ (getD_in l a (by omega))
      have HCC : ∀ W, SoR base gb 53 tl w0 l W → Calls Tryz.prog g (#[l.getD h undef, l.getD a undef] ++ lb) W fun e w' => e = .returned (.int .i64 (c (l.getD h undef) (l.getD a undef))) ∧ Below W.heap.size W w' := fun W hW => HP.out W l _ _ hW a1.1 a0.1
      obtain ⟨x, hx⟩ : ∃ x, l.getD h undef = x := ⟨_, rfl⟩
      obtain ⟨y, hy⟩ : ∃ x, l.getD a undef = x := ⟨_, rfl⟩
      rw [hx] at c1 a1
      rw [hy] at c0 a0
      rw [hx, hy] at HCC DC
      have SK := jb.mk (show SoR base gb 53 tl w0 l wr ∧ wr.cell? ⟨gb, h, none⟩ = some x ∧ wr.cell? ⟨gb, a, none⟩ = some y from ⟨S1.out, c1, c0⟩)
      have HC1 := jb.mk (show ∀ W, (SoR base gb 53 tl w0 l W ∧ W.cell? ⟨gb, h, none⟩ = some x ∧ W.cell? ⟨gb, a, none⟩ = some y) → Calls Tryz.prog g (#[x, y] ++ lb) W fun e w' => e = .returned (.int .i64 (c x y)) ∧ Below W.heap.size W w' from fun W hW => HCC W hW.1)
      have HX := jb.mk hx
      have HY := jb.mk hy
      clear HCC c1 c0 S1 hx hy
      by_cases hc : c x y < 0
      · have hd : decide (c x y < 0) = true := decide_eq_true hc
        have RX := jb.mk (DC.1 hc)
        clear DC
        generalize c x y = cv at hc hd HC1
        go_wp2_with fail
        go_region_held3 (fun w' => SoR base gb 53 tl w0 l w' ∧ w'.cell? ⟨gb, h, none⟩ = some x ∧ w'.cell? ⟨gb, a, none⟩ = some y)
          (first | exact SoR.keep (by first | assumption | exact SK.out) (by first | assumption | exact qc (Below.refl _ _)))
          (first | (go_at_fn g; refine (HC1.out _ (by assumption)).mono ?_; rintro e w' ⟨rfl, hb'⟩))
        rename_i hH
        have S3 := jb.mk hH.1
        clear hH SK hb' HC1
        clear hq
        go_wp2
        go_roundg (j - (h + 1))
        case measure => omega
        case rel => exact ⟨h + 1, j, by go_num, rfl, by omega, by omega, by omega, by omega, S3, ⟨.inr (by rw [show h + 1 - 1 = h by omega, HX.out, HY.out]; exact RX.out)⟩, J1⟩
      · have hd : decide (c x y < 0) = false := decide_eq_false hc
        have RX := jb.mk (DC.2 hc)
        clear DC
        generalize c x y = cv at hc hd HC1
        go_wp2_with fail
        go_region_held3 (fun w' => SoR base gb 53 tl w0 l w' ∧ w'.cell? ⟨gb, h, none⟩ = some x ∧ w'.cell? ⟨gb, a, none⟩ = some y)
          (first | exact SoR.keep (by first | assumption | exact SK.out) (by first | assumption | exact qc (Below.refl _ _)))
          (first | (go_at_fn g; refine (HC1.out _ (by assumption)).mono ?_; rintro e w' ⟨rfl, hb'⟩))
        rename_i hH
        have S3 := jb.mk hH.1
        clear hH SK hb' HC1
        clear hq
        go_wp2
        go_roundg (h - i)
        case measure => omega
        case rel => exact ⟨i, h, rfl, rfl, by omega, by omega, by omega, by omega, S3, I1, ⟨.inr (by rw [HX.out, HY.out]; exact RX.out)⟩⟩
    · have hltz : ¬ (i : Int) < (j : Int) := by omega
      have e : i = j := by omega
      subst e
      obtain ⟨q, rfl⟩ : ∃ q, i = q + 1 := ⟨i - 1, by omega⟩
      have hz : ((q + 1 : Nat) : Int) = (q : Int) + 1 := by omega
      rw [hz] at hltz ⊢
      clear hz
      have haq : a ≤ q := by omega
      have hqb : q < b := by omega
      have LO : jb (q = a ∨ R (l.getD q undef) (l.getD a undef)) := ⟨by
        have := ONE.out
        rcases I1.out with z | z
        · left; omega
        · right; simpa using z⟩
      have HI := J1
      clear I1 J1 hij hmi hjb hltz hlt
      have rq : IntKind.i64.wrap ((q : Int) + 1 - 1) = (q : Int) := by rw [IntKind.wrap_i64]; omega
      go_wp2_with fail
      clear rq
      go_loopg [13] (q - a) (fun g2 vk wr2 => ∃ (k : Nat) (lk : List Value), vk = .int .i64 k ∧ a ≤ k ∧ k ≤ q ∧ q - k ≤ g2 ∧ lk.length = l.length ∧ jb (∀ x ∈ lk, PS P x) ∧ jb (SoR base gb 53 tl w0 lk wr2) ∧ jb (SymP.ShL undef l lk a k))
      case atStart => exact ⟨a, l, rfl, Nat.le_refl _, haq, Nat.le_refl _, rfl, A0, S1, ⟨SymP.ShL.start l a⟩⟩
      case round =>
        clear S1
        obtain ⟨k, lk, rfl, hak, hkq, hg2, hlk, A2, S2, Q2⟩ := hrel
        by_cases hkl : k < q
        · have hklz : (k : Int) < (q : Int) := by omega
          have k1 := S2.out.at k (by omega)
          have k2 := S2.out.at (k + 1) (by omega)
          have o1 := (A2.out _ (getD_in lk k (by omega))).2
          have o2 := (A2.out _ (getD_in lk (k + 1) (by omega))).2
          have f1 := S2.out.fr k
          have f2 := S2.out.fr (k + 1)
          have kc : ∀ v, (wr.setCell ⟨gb, k, none⟩ v).cell? ⟨gb, k + 1, none⟩ = some (lk.getD (k + 1) undef) := fun v => (World.cell?_setCell_other _ _ _ _ (by intro e'; simp only [Addr.mk.injEq] at e'; omega)).trans k2
          have Q3 := jb.mk (Q2.out.step hak (by omega))
          have A3 := jb.mk (all_swp (PS P) lk k (k + 1) (by omega) (by omega) A2.out)
          obtain ⟨x, hx⟩ : ∃ x, lk.getD k undef = x := ⟨_, rfl⟩
          obtain ⟨y, hy⟩ : ∃ x, lk.getD (k + 1) undef = x := ⟨_, rfl⟩
          have S3 := jb.mk (S2.out.swap k (k + 1) (by omega) (by omega) x y hx hy)
          have kc := kc y
          rw [hx] at k1 o1
          rw [hy] at k2 o2 kc
          clear hx hy S2 A2 Q2
          obtain ⟨x1, x2, x3, rfl⟩ := o1
          obtain ⟨y1, y2, y3, rfl⟩ := o2
          have p1 : (0 : Int) ≤ (k : Int) + 1 := by omega
          have b1 : (k : Int) + 1 < (l.length : Int) := by omega
          have e1 : ((k : Int) + 1).toNat = k + 1 := by omega
          have r1 : IntKind.i64.wrap ((k : Int) + 1) = (k : Int) + 1 := by rw [IntKind.wrap_i64]; omega
          have p_k : (0 : Int) ≤ (k : Int) := by omega
          have b_k : (k : Int) < (l.length : Int) := by omega
          have r_k : IntKind.i64.wrap (k : Int) = (k : Int) := by rw [IntKind.wrap_i64]; omega
          go_wp2_with fail
          go_big_region_o
          clear k1 k2 kc f1 f2 e1 r1 r_k
          generalize ((wr.setCell ⟨gb, k, none⟩ _).setCell ⟨gb, k + 1, none⟩ _).drew = w4 at S3 ⊢
          go_wp2
          go_roundg (q - (k + 1))
          case measure => omega
          case rel => exact ⟨k + 1, _, by first | rfl | go_num, by omega, by omega, by omega, by rw [SymP.swp_length]; exact hlk, A3, S3, Q3⟩
        · have hklz : ¬ (k : Int) < (q : Int) := by omega
          have e : k = q := by omega
          subst e
          have D := SymP.ShL.done TR.out Q2.out ⟨haq, hqb⟩ hbl (by rw [← ONE.out]; exact H2.out) LO.out (by rcases HI.out with z | z; exact .inl z; exact .inr z)
          have S3 := S2.out
          go_wp2
          exact bodyPost_ret (v := .tuple #[]) (by simp [results, Tryz.results93, go_sem]) rfl ⟨rfl, lk, S3, D⟩
set_option maxHeartbeats 8000000 in
set_option maxRecDepth 100000 in
theorem sym2.calls (base gb cap : Nat) (tl : List Value) (w0 : World) (c : Value → Value → Int) (g : Nat) (lb : Array Value) (P : Value → Prop) (R : Value → Value → Prop) (tr : ∀ x y z, R x y → R y z → R x z) (eg : ∀ args w, (callFunc g args).run Tryz.prog w = .ok (.enter g args) w)
    (hp : ∀ W l' x y, SoR base gb 53 tl w0 l' W → P x → P y → Calls Tryz.prog g (#[x, y] ++ lb) W fun e w' => e = .returned (.int .i64 (c x y)) ∧ Below W.heap.size W w')
    (l : List Value) (hl : l.length ≤ 1000) (hP : ∀ x ∈ l, PS P x) (a m b : Nat) (za zm zb : Int) (hza : za = (a : Int)) (hzm : zm = (m : Int)) (hzb : zb = (b : Int)) (one : b = m + 1) (ne : ¬ m = a + 1) (ham : a < m) (hmb : m < b) (hbl : b ≤ l.length)
    (h1 : SymP.Srt R undef l a m) (h2 : SymP.Srt R undef l m b) (hC : SymP.Crs c R undef l a m b) (w : World) (hS : SoR base gb 53 tl w0 l w) :
    Calls Tryz.prog 93 #[.slice (some ⟨gb, 0, none⟩) l.length cap, .int .i64 za, .int .i64 zm, .int .i64 zb, .func (.func g) #[] lb] w fun e w' => e = .returned (.tuple #[]) ∧ Lvs base gb 53 tl w0 (Srtd R l a b) w' := by
  subst hza hzm hzb
  have HP := jb.mk hp
  have S0 := jb.mk hS
  have A0 := jb.mk hP
  have HC := jb.mk hC
  have TR := jb.mk tr
  have H1 := jb.mk h1
  have H2 := jb.mk h2
  clear hp hS hP h1 h2 hC tr
  have mixed : Tryz.prog.follows .mixedOrders = true := by kernel_rfl
  have t0 : (((m : Int) - (a : Int)) == 1) = false := beq_eq_false_iff_ne.mpr (by omega)
  have t1 : (((b : Int) - (m : Int)) == 1) = true := beq_iff_eq.mpr (by omega)
  have ONE := jb.mk one
  clear one ne
  go_enter Tryz.func93, Tryz.ntmps93
  go_wp2_with fail
  go_loopg [14, 15] (m - a) (fun g1 vi vj wr => ∃ (i j : Nat), vi = .int .i64 i ∧ vj = .int .i64 j ∧ a ≤ i ∧ i ≤ j ∧ j ≤ m ∧ j - i ≤ g1 ∧ jb (SoR base gb 53 tl w0 l wr) ∧ jb (i = a ∨ R (l.getD (i - 1) undef) (l.getD m undef)) ∧ jb (j = m ∨ R (l.getD m undef) (l.getD j undef)))
  case atStart => exact ⟨a, m, rfl, rfl, by omega, by omega, by omega, by omega, S0, ⟨.inl rfl⟩, ⟨.inl rfl⟩⟩
  case round =>
    clear S0
    obtain ⟨i, j, rfl, rfl, hmi, hij, hjb, hg1, S1, I1, J1⟩ := hrel
    by_cases hlt : i < j
    · have hltz : (i : Int) < (j : Int) := by omega
      obtain ⟨h, hh⟩ : ∃ h : Nat, h = (i + j) / 2 := ⟨_, rfl⟩
      have hq : ((i : Int) + (j : Int)) / 2 = (h : Int) := by omega
      have hih : i ≤ h := by omega
      have hhj : h < j := by omega
      clear hh
      have DC := HC.out h m (by omega) (by omega) (Nat.le_refl _) hmb
      have p_h : (0 : Int) ≤ (h : Int) := by omega
      have b_h : (h : Int) < (l.length : Int) := by omega
      have r_h : IntKind.i64.wrap (h : Int) = (h : Int) := by rw [IntKind.wrap_i64]; omega
      have p_m : (0 : Int) ≤ (m : Int) := by omega
      have b_m : (m : Int) < (l.length : Int) := by omega
      have r_m : IntKind.i64.wrap (m : Int) = (m : Int) := by rw [IntKind.wrap_i64]; omega
      have c1 := S1.out.at m (by omega)
      have c0 := S1.out.at h (by omega)
      have a1 := A0.out _ (getD_in l m (by omega))
      have a0 := A0.out _ (getD_in l h (by omega))
      have HCC : ∀ W, SoR base gb 53 tl w0 l W → Calls Tryz.prog g (#[l.getD m undef, l.getD h undef] ++ lb) W fun e w' => e = .returned (.int .i64 (c (l.getD m undef) (l.getD h undef))) ∧ Below W.heap.size W w' := fun W hW => HP.out W l _ _ hW a1.1 a0.1
      obtain ⟨x, hx⟩ : ∃ x, l.getD m undef = x := ⟨_, rfl⟩
      obtain ⟨y, hy⟩ : ∃ x, l.getD h undef = x := ⟨_, rfl⟩
      rw [hx] at c1 a1
      rw [hy] at c0 a0
      rw [hx, hy] at HCC DC
      have SK := jb.mk (show SoR base gb 53 tl w0 l wr ∧ wr.cell? ⟨gb, m, none⟩ = some x ∧ wr.cell? ⟨gb, h, none⟩ = some y from ⟨S1.out, c1, c0⟩)
      have HC1 := jb.mk (show ∀ W, (SoR base gb 53 tl w0 l W ∧ W.cell? ⟨gb, m, none⟩ = some x ∧ W.cell? ⟨gb, h, none⟩ = some y) → Calls Tryz.prog g (#[x, y] ++ lb) W fun e w' => e = .returned (.int .i64 (c x y)) ∧ Below W.heap.size W w' from fun W hW => HCC W hW.1)
      have HX := jb.mk hx
      have HY := jb.mk hy
      clear HCC c1 c0 S1 hx hy
      by_cases hc : c x y < 0
      · have hd : decide (c x y < 0) = true := decide_eq_true hc
        have RX := jb.mk (DC.1 hc)
        clear DC
        generalize c x y = cv at hc hd HC1
        go_wp2_with fail
        go_region_held3 (fun w' => SoR base gb 53 tl w0 l w' ∧ w'.cell? ⟨gb, m, none⟩ = some x ∧ w'.cell? ⟨gb, h, none⟩ = some y)
          (first | exact SoR.keep (by first | assumption | exact SK.out) (by first | assumption | exact qc (Below.refl _ _)))
          (first | (go_at_fn g; refine (HC1.out _ (by assumption)).mono ?_; rintro e w' ⟨rfl, hb'⟩))
        rename_i hH
        have S3 := jb.mk hH.1
        clear hH SK hb' HC1
        clear hq
        go_wp2
        go_roundg (h - i)
        case measure => omega
        case rel => exact ⟨i, h, rfl, rfl, by omega, by omega, by omega, by omega, S3, I1, ⟨.inr (by rw [HX.out, HY.out]; exact RX.out)⟩⟩
      · have hd : decide (c x y < 0) = false := decide_eq_false hc
        have RX := jb.mk (DC.2 hc)
        clear DC
        generalize c x y = cv at hc hd HC1
        go_wp2_with fail
        go_region_held3 (fun w' => SoR base gb 53 tl w0 l w' ∧ w'.cell? ⟨gb, m, none⟩ = some x ∧ w'.cell? ⟨gb, h, none⟩ = some y)
          (first | exact SoR.keep (by first | assumption | exact SK.out) (by first | assumption | exact qc (Below.refl _ _)))
          (first | (go_at_fn g; refine (HC1.out _ (by assumption)).mono ?_; rintro e w' ⟨rfl, hb'⟩))
        rename_i hH
        have S3 := jb.mk hH.1
        clear hH SK hb' HC1
        clear hq
        go_wp2
        go_roundg (j - (h + 1))
        case measure => omega
        case rel => exact ⟨h + 1, j, by go_num, rfl, by omega, by omega, by omega, by omega, S3, ⟨.inr (by rw [show h + 1 - 1 = h by omega, HX.out, HY.out]; exact RX.out)⟩, J1⟩
    · have hltz : ¬ (i : Int) < (j : Int) := by omega
      have e : i = j := by omega
      subst e
      have LO := I1
      have HI := J1
      clear I1 J1 hij hltz hlt
      go_wp2_with fail
      go_loopg [17] (m - i) (fun g2 vk wr2 => ∃ (k : Nat) (lk : List Value), vk = .int .i64 k ∧ i ≤ k ∧ k ≤ m ∧ k - i ≤ g2 ∧ lk.length = l.length ∧ jb (∀ x ∈ lk, PS P x) ∧ jb (SoR base gb 53 tl w0 lk wr2) ∧ jb (SymP.ShR undef l lk m k))
      case atStart => exact ⟨m, l, rfl, hjb, Nat.le_refl _, Nat.le_refl _, rfl, A0, S1, ⟨SymP.ShR.start l m⟩⟩
      case round =>
        clear S1
        obtain ⟨k, lk, rfl, hak, hkq, hg2, hlk, A2, S2, Q2⟩ := hrel
        by_cases hkl : i < k
        · obtain ⟨k, rfl⟩ : ∃ q, k = q + 1 := ⟨k - 1, by omega⟩
          have hz : ((k + 1 : Nat) : Int) = (k : Int) + 1 := by omega
          rw [hz]
          clear hz
          have hklz : (i : Int) < (k : Int) + 1 := by omega
          have k1 := S2.out.at (k + 1) (by omega)
          have k2 := S2.out.at k (by omega)
          have o1 := (A2.out _ (getD_in lk (k + 1) (by omega))).2
          have o2 := (A2.out _ (getD_in lk k (by omega))).2
          have f1 := S2.out.fr (k + 1)
          have f2 := S2.out.fr k
          have kc : ∀ v, (wr.setCell ⟨gb, k + 1, none⟩ v).cell? ⟨gb, k, none⟩ = some (lk.getD k undef) := fun v => (World.cell?_setCell_other _ _ _ _ (by intro e'; simp only [Addr.mk.injEq] at e'; omega)).trans k2
          have Q3 := jb.mk (Q2.out.step hkq (by omega))
          have A3 := jb.mk (all_swp (PS P) lk (k + 1) k (by omega) (by omega) A2.out)
          obtain ⟨x, hx⟩ : ∃ x, lk.getD (k + 1) undef = x := ⟨_, rfl⟩
          obtain ⟨y, hy⟩ : ∃ x, lk.getD k undef = x := ⟨_, rfl⟩
          have S3 := jb.mk (S2.out.swap (k + 1) k (by omega) (by omega) x y hx hy)
          have kc := kc y
          rw [hx] at k1 o1
          rw [hy] at k2 o2 kc
          clear hx hy S2 A2 Q2
          obtain ⟨x1, x2, x3, rfl⟩ := o1
          obtain ⟨y1, y2, y3, rfl⟩ := o2
          have p1 : (0 : Int) ≤ (k : Int) + 1 := by omega
          have b1 : (k : Int) + 1 < (l.length : Int) := by omega
          have e1 : ((k : Int) + 1).toNat = k + 1 := by omega
          have r1 : IntKind.i64.wrap ((k : Int) + 1) = (k : Int) + 1 := by rw [IntKind.wrap_i64]; omega
          have p_k : (0 : Int) ≤ (k : Int) := by omega
          have b_k : (k : Int) < (l.length : Int) := by omega
          have r_k : IntKind.i64.wrap (k : Int) = (k : Int) := by rw [IntKind.wrap_i64]; omega
          go_wp2_with fail
          go_big_region_o
          clear k1 k2 kc f1 f2 e1 r1 r_k
          generalize ((wr.setCell ⟨gb, k + 1, none⟩ _).setCell ⟨gb, k, none⟩ _).drew = w4 at S3 ⊢
          go_wp2
          go_roundg (k - i)
          case measure => omega
          case rel => exact ⟨k, _, by first | rfl | go_num, by omega, by omega, by omega, by rw [SymP.swp_length]; exact hlk, A3, S3, Q3⟩
        · have hklz : ¬ (i : Int) < (k : Int) := by omega
          have e : k = i := by omega
          subst e
          have D := SymP.ShR.done TR.out Q2.out ⟨hmi, hjb⟩ (by omega) H1.out LO.out HI.out
          rw [← ONE.out] at D
          have S3 := S2.out
          go_wp2
          exact bodyPost_ret (v := .tuple #[]) (by simp [results, Tryz.results93, go_sem]) rfl ⟨rfl, lk, S3, D⟩
/-- What symMerge does to rows in the bounds N. -/
def SymIH (base gb cap : Nat) (tl : List Value) (w0 : World) (c : Value → Value → Int) (g : Nat) (lb : Array Value) (P : Value → Prop) (R : Value → Value → Prop) (len N : Nat) : Prop :=
  ∀ (l : List Value), l.length = len → (∀ x ∈ l, PS P x) → ∀ (a m b : Nat), b - a < N → a < m → m < b → b ≤ len → SymP.Srt R undef l a m → SymP.Srt R undef l m b → SymP.Crs c R undef l a m b → ∀ (za zm zb : Int), za = (a : Int) → zm = (m : Int) → zb = (b : Int) → ∀ (w : World), SoR base gb 53 tl w0 l w →
    Calls Tryz.prog 93 #[.slice (some ⟨gb, 0, none⟩) len cap, .int .i64 za, .int .i64 zm, .int .i64 zb, .func (.func g) #[] lb] w fun e w' => e = .returned (.tuple #[]) ∧ Lvs base gb 53 tl w0 (Srtd R l a b) w'
set_option maxHeartbeats 8000000 in
set_option maxRecDepth 100000 in
theorem symg.calls (base gb cap : Nat) (tl : List Value) (w0 : World) (c : Value → Value → Int) (g : Nat) (lb : Array Value) (P : Value → Prop) (R : Value → Value → Prop) (tr : ∀ x y z, R x y → R y z → R x z) (eg : ∀ args w, (callFunc g args).run Tryz.prog w = .ok (.enter g args) w)
    (hp : ∀ W l' x y, SoR base gb 53 tl w0 l' W → P x → P y → Calls Tryz.prog g (#[x, y] ++ lb) W fun e w' => e = .returned (.int .i64 (c x y)) ∧ Below W.heap.size W w')
    (l : List Value) (hl : l.length ≤ 1000) (hP : ∀ x ∈ l, PS P x) (a m b : Nat) (za zm zb : Int) (hza : za = (a : Int)) (hzm : zm = (m : Int)) (hzb : zb = (b : Int)) (ne1 : ¬ m = a + 1) (ne2 : ¬ b = m + 1) (ham : a < m) (hmb : m < b) (hbl : b ≤ l.length)
    (h1 : SymP.Srt R undef l a m) (h2 : SymP.Srt R undef l m b) (hC : SymP.Crs c R undef l a m b) (ih : SymIH base gb cap tl w0 c g lb P R l.length (b - a)) (w : World) (hS : SoR base gb 53 tl w0 l w) :
    Calls Tryz.prog 93 #[.slice (some ⟨gb, 0, none⟩) l.length cap, .int .i64 za, .int .i64 zm, .int .i64 zb, .func (.func g) #[] lb] w fun e w' => e = .returned (.tuple #[]) ∧ Lvs base gb 53 tl w0 (Srtd R l a b) w' := by
  subst hza hzm hzb
  have HP := jb.mk hp
  have S0 := jb.mk hS
  have A0 := jb.mk hP
  have HC := jb.mk hC
  have TR := jb.mk tr
  have H1 := jb.mk h1
  have H2 := jb.mk h2
  have IH := jb.mk ih
  clear hp hS hP h1 h2 hC tr ih
  have mixed : Tryz.prog.follows .mixedOrders = true := by kernel_rfl
  have t0 : (((m : Int) - (a : Int)) == 1) = false := beq_eq_false_iff_ne.mpr (by omega)
  have t1 : (((b : Int) - (m : Int)) == 1) = false := beq_eq_false_iff_ne.mpr (by omega)
  obtain ⟨mid, hmid⟩ : ∃ mid : Nat, mid = (a + b) / 2 := ⟨_, rfl⟩
  have am1 : a < mid := by omega
  have am2 : mid < b := by omega
  have am3 : 2 * mid ≤ a + b := by omega
  have am4 : a + b ≤ 2 * mid + 1 := by omega
  have q0 : ((a : Int) + (b : Int)) / 2 = (mid : Int) := by omega
  clear hmid ne1 ne2
  go_enter Tryz.func93, Tryz.ntmps93
  go_upto_if 140 with fail
  go_cut [20, 21] from 140 to 140 (fun v20 v21 wc => ∃ lo hi : Nat, v20 = .int .i64 lo ∧ v21 = .int .i64 hi ∧ ((mid < m ∧ lo + b = mid + m ∧ hi = mid) ∨ (m ≤ mid ∧ lo = a ∧ hi = m)) ∧ jb (SoR base gb 53 tl w0 l wc))
  case first =>
    by_cases hm : mid < m
    · have d1 : decide ((m : Int) > (mid : Int)) = true := decide_eq_true (by omega)
      have d2 : (mid : Int) < (m : Int) := by omega
      obtain ⟨lo, hlo⟩ : ∃ lo : Nat, lo = mid + m - b := ⟨_, rfl⟩
      have q1 : (mid : Int) + (m : Int) - (b : Int) = (lo : Int) := by omega
      have hlo2 : lo + b = mid + m := by omega
      clear hlo
      go_wp2_with fail
      go_meet
      exact ⟨lo, mid, rfl, rfl, .inl ⟨hm, hlo2, rfl⟩, S0⟩
    · have d1 : decide ((m : Int) > (mid : Int)) = false := decide_eq_false (by omega)
      have d2 : ¬ (mid : Int) < (m : Int) := by omega
      go_wp2_with fail
      go_meet
      exact ⟨a, m, rfl, rfl, .inr ⟨by omega, rfl, rfl⟩, S0⟩
  case rest =>
  as_aux_lemma =>
  clear S0 q0
  obtain ⟨lo, hi, rfl, rfl, hlh, S0⟩ := hcut
  obtain ⟨pn, hpn⟩ : ∃ pn : Nat, pn + 1 = mid + m := ⟨mid + m - 1, by omega⟩
  have q2 : (mid : Int) + (m : Int) - 1 = (pn : Int) := by omega
  have L0 : a ≤ lo ∧ lo ≤ hi ∧ hi ≤ m ∧ hi ≤ mid := by omega
  go_wp2_with fail
  clear q2
  go_loopg [20, 21] (hi - lo) (fun g1 vi vj wr => ∃ (i j : Nat), vi = .int .i64 i ∧ vj = .int .i64 j ∧ lo ≤ i ∧ i ≤ j ∧ j ≤ hi ∧ j - i ≤ g1 ∧ jb (SoR base gb 53 tl w0 l wr) ∧ jb (i = lo ∨ R (l.getD (i - 1) undef) (l.getD (pn - (i - 1)) undef)) ∧ jb (j = hi ∨ R (l.getD (pn - j) undef) (l.getD j undef)))
  case atStart => exact ⟨lo, hi, rfl, rfl, by omega, by omega, by omega, by omega, S0, ⟨.inl rfl⟩, ⟨.inl rfl⟩⟩
  case round =>
    clear S0
    obtain ⟨i, j, rfl, rfl, hmi, hij, hjb, hg1, S1, I1, J1⟩ := hrel
    by_cases hlt : i < j
    · have hltz : (i : Int) < (j : Int) := by omega
      obtain ⟨h, hh⟩ : ∃ h : Nat, h = (i + j) / 2 := ⟨_, rfl⟩
      have hq : ((i : Int) + (j : Int)) / 2 = (h : Int) := by omega
      have hih : i ≤ h := by omega
      have hhj : h < j := by omega
      clear hh
      obtain ⟨qn, hqn⟩ : ∃ qn : Nat, qn + h = pn := ⟨pn - h, by omega⟩
      have hq2 : (pn : Int) - (h : Int) = (qn : Int) := by omega
      have bq1 : m ≤ qn := by omega
      have bq2 : qn < b := by omega
      have hqe : pn - h = qn := by omega
      have HQE := jb.mk hqe
      clear hqn hqe
      have DC := HC.out h qn (by omega) (by omega) bq1 bq2
      have p_h : (0 : Int) ≤ (h : Int) := by omega
      have b_h : (h : Int) < (l.length : Int) := by omega
      have r_h : IntKind.i64.wrap (h : Int) = (h : Int) := by rw [IntKind.wrap_i64]; omega
      have p_q : (0 : Int) ≤ (qn : Int) := by omega
      have b_q : (qn : Int) < (l.length : Int) := by omega
      have r_q : IntKind.i64.wrap (qn : Int) = (qn : Int) := by rw [IntKind.wrap_i64]; omega
      have r_s : IntKind.i64.wrap ((pn : Int) - (h : Int)) = (qn : Int) := by rw [IntKind.wrap_i64]; omega
      have c1 := S1.out.at qn (by omega)
      have c0 := S1.out.at h (by omega)
      have a1 := A0.out _ (getD_in l qn (by omega))
      have a0 := A0.out _ (getD_in l h (by omega))
      have HCC : ∀ W, SoR base gb 53 tl w0 l W → Calls Tryz.prog g (#[l.getD qn undef, l.getD h undef] ++ lb) W fun e w' => e = .returned (.int .i64 (c (l.getD qn undef) (l.getD h undef))) ∧ Below W.heap.size W w' := fun W hW => HP.out W l _ _ hW a1.1 a0.1
      obtain ⟨x, hx⟩ : ∃ x, l.getD qn undef = x := ⟨_, rfl⟩
      obtain ⟨y, hy⟩ : ∃ x, l.getD h undef = x := ⟨_, rfl⟩
      rw [hx] at c1 a1
      rw [hy] at c0 a0
      rw [hx, hy] at HCC DC
      have SK := jb.mk (show SoR base gb 53 tl w0 l wr ∧ wr.cell? ⟨gb, qn, none⟩ = some x ∧ wr.cell? ⟨gb, h, none⟩ = some y from ⟨S1.out, c1, c0⟩)
      have HC1 := jb.mk (show ∀ W, (SoR base gb 53 tl w0 l W ∧ W.cell? ⟨gb, qn, none⟩ = some x ∧ W.cell? ⟨gb, h, none⟩ = some y) → Calls Tryz.prog g (#[x, y] ++ lb) W fun e w' => e = .returned (.int .i64 (c x y)) ∧ Below W.heap.size W w' from fun W hW => HCC W hW.1)
      have HX := jb.mk hx
      have HY := jb.mk hy
      clear HCC c1 c0 S1 hx hy
      by_cases hc : c x y < 0
      · have hd : decide (c x y < 0) = true := decide_eq_true hc
        have RX := jb.mk (DC.1 hc)
        clear DC
        generalize c x y = cv at hc hd HC1
        go_wp2_with fail
        go_region_held3 (fun w' => SoR base gb 53 tl w0 l w' ∧ w'.cell? ⟨gb, qn, none⟩ = some x ∧ w'.cell? ⟨gb, h, none⟩ = some y)
          (first | exact SoR.keep (by first | assumption | exact SK.out) (by first | assumption | exact qc (Below.refl _ _)))
          (first | (go_at_fn g; refine (HC1.out _ (by assumption)).mono ?_; rintro e w' ⟨rfl, hb'⟩))
        rename_i hH
        have S3 := jb.mk hH.1
        clear hH SK hb' HC1
        clear hq hq2 r_s
        go_wp2
        go_roundg (h - i)
        case measure => omega
        case rel => exact ⟨i, h, rfl, rfl, by omega, by omega, by omega, by omega, S3, I1, ⟨.inr (by rw [HQE.out, HX.out, HY.out]; exact RX.out)⟩⟩
      · have hd : decide (c x y < 0) = false := decide_eq_false hc
        have RX := jb.mk (DC.2 hc)
        clear DC
        generalize c x y = cv at hc hd HC1
        go_wp2_with fail
        go_region_held3 (fun w' => SoR base gb 53 tl w0 l w' ∧ w'.cell? ⟨gb, qn, none⟩ = some x ∧ w'.cell? ⟨gb, h, none⟩ = some y)
          (first | exact SoR.keep (by first | assumption | exact SK.out) (by first | assumption | exact qc (Below.refl _ _)))
          (first | (go_at_fn g; refine (HC1.out _ (by assumption)).mono ?_; rintro e w' ⟨rfl, hb'⟩))
        rename_i hH
        have S3 := jb.mk hH.1
        clear hH SK hb' HC1
        clear hq hq2 r_s
        go_wp2
        go_roundg (j - (h + 1))
        case measure => omega
        case rel => exact ⟨h + 1, j, by go_num, rfl, by omega, by omega, by omega, by omega, S3, ⟨.inr (by rw [show h + 1 - 1 = h by omega, HQE.out, HX.out, HY.out]; exact RX.out)⟩, J1⟩
    · have hltz : ¬ (i : Int) < (j : Int) := by omega
      have e : i = j := by omega
      subst e
      as_aux_lemma =>
      obtain ⟨t, ht⟩ : ∃ t : Nat, t + i = mid + m := ⟨mid + m - i, by omega⟩
      have q3 : (mid : Int) + (m : Int) - (i : Int) = (t : Int) := by omega
      have B1 : a ≤ i ∧ i ≤ m ∧ m ≤ t ∧ t ≤ b ∧ i + (t - m) = mid := by omega
      have HA : jb (i = a ∨ t = b ∨ R (l.getD (i - 1) undef) (l.getD t undef)) := ⟨by
        rcases I1.out with z | z
        · rcases hlh with y | y <;> omega
        · by_cases y : i = a
          · exact .inl y
          · rw [show pn - (i - 1) = t by omega] at z; exact .inr (.inr z)⟩
      have HB : jb (i = m ∨ t = m ∨ R (l.getD (t - 1) undef) (l.getD i undef)) := ⟨by
        rcases J1.out with z | z
        · rcases hlh with y | y <;> omega
        · rw [show pn - i = t - 1 by omega] at z; exact .inr (.inr z)⟩
      clear I1 J1 hlh L0 hmi hij hjb hg1 hltz hlt
      go_upto_region 39 with fail
      clear q3
      go_cut [185] from 178 to 185 (fun v wc => ∃ bb : Bool, v = .bool bb ∧ (bb = true ↔ (i < m ∧ m < t)) ∧ jb (SoR base gb 53 tl w0 l wc))
      case first =>
        by_cases c1 : i < m
        · have d1 : decide ((i : Int) < (m : Int)) = true := decide_eq_true (by omega)
          have d1' : (i : Int) < (m : Int) := by omega
          by_cases c2 : m < t
          · have d2 : decide ((m : Int) < (t : Int)) = true := decide_eq_true (by omega)
            have d2' : (m : Int) < (t : Int) := by omega
            have CC := jb.mk (And.intro c1 c2)
            go_wp2_with fail
            go_meet
            exact ⟨true, rfl, ⟨fun _ => CC.out, fun _ => rfl⟩, S1⟩
          · have d2 : decide ((m : Int) < (t : Int)) = false := decide_eq_false (by omega)
            have d2' : ¬ (m : Int) < (t : Int) := by omega
            have CC := jb.mk c2
            go_wp2_with fail
            go_meet
            exact ⟨false, rfl, ⟨fun z => absurd z (by decide), fun z => absurd z.2 CC.out⟩, S1⟩
        · have d1 : decide ((i : Int) < (m : Int)) = false := decide_eq_false (by omega)
          have d1' : ¬ (i : Int) < (m : Int) := by omega
          have CC := jb.mk c1
          go_wp2_with fail
          go_meet
          exact ⟨false, rfl, ⟨fun z => absurd z (by decide), fun z => absurd z.1 CC.out⟩, S1⟩
      case rest =>
      as_aux_lemma =>
      clear S1
      obtain ⟨bb, rfl, hbb, S1⟩ := hcut
      have HBB := jb.mk hbb
      clear hbb
      go_upto_if 185 with fail
      go_cut [] from 185 to 185 (fun wc => ∃ l1, SoR base gb 53 tl w0 l1 wc ∧ SymP.Rot undef l l1 i m t)
      case first =>
        cases bb
        · have NN : jb (i = m ∨ m = t) := ⟨by
            by_cases z : i < m ∧ m < t
            · exact absurd (HBB.out.2 z) (by decide)
            · omega⟩
          go_wp2_with fail
          go_meet
          exact ⟨l, S1.out, SymP.Rot.none undef l i m t (by omega) (by omega) NN.out⟩
        · obtain ⟨c1, c2⟩ := HBB.out.1 rfl
          have HR := jb.mk (fun w hS => rot.calls base gb cap tl w0 (.func (.func g) #[] lb) l hl (PS.sl A0.out) i m t _ _ _ rfl rfl rfl c1 c2 (by omega) w hS)
          go_wp2_with (go_at_call 103; (with_reducible refine (HR.out _ S1.out).mono ?_); rintro e w1 ⟨rfl, hq⟩; have HQ := jb.mk hq; clear hq)
          go_meet
          exact HQ.out
      case rest =>
      as_aux_lemma =>
      clear S1
      obtain ⟨l1, s1, ro⟩ := hcut
      obtain ⟨k1, sa, sb, sc, sd, se, sf, low⟩ := SymP.step (c := c) TR.out l l1 a m b i t mid B1.1 B1.2.1 B1.2.2.1 B1.2.2.2.1 B1.2.2.2.2 H1.out H2.out HC.out HA.out HB.out ro
      have A1 := jb.mk (fun x hx => A0.out x (k1.2.1.mem_iff.1 hx) : ∀ x ∈ l1, PS P x)
      have L1 := jb.mk k1.1
      have S1 := jb.mk s1
      have KA := jb.mk k1
      have QA := jb.mk sa
      have QB := jb.mk sb
      have QC := jb.mk sc
      have QD := jb.mk sd
      have QE := jb.mk se
      have QF := jb.mk sf
      have LOW := jb.mk low
      clear s1 ro k1 sa sb sc sd se sf low HA HB H1 H2 HC A0
      clear HBB
      go_upto_region 41 with fail
      go_cut [199] from 192 to 199 (fun v wc => ∃ bb : Bool, v = .bool bb ∧ (bb = true ↔ (a < i ∧ i < mid)) ∧ jb (SoR base gb 53 tl w0 l1 wc))
      case first =>
        by_cases c1 : a < i
        · have d1 : decide ((a : Int) < (i : Int)) = true := decide_eq_true (by omega)
          have d1' : (a : Int) < (i : Int) := by omega
          by_cases c2 : i < mid
          · have d2 : decide ((i : Int) < (mid : Int)) = true := decide_eq_true (by omega)
            have d2' : (i : Int) < (mid : Int) := by omega
            have CC := jb.mk (And.intro c1 c2)
            go_wp2_with fail
            go_meet
            exact ⟨true, rfl, ⟨fun _ => CC.out, fun _ => rfl⟩, S1⟩
          · have d2 : decide ((i : Int) < (mid : Int)) = false := decide_eq_false (by omega)
            have d2' : ¬ (i : Int) < (mid : Int) := by omega
            have CC := jb.mk c2
            go_wp2_with fail
            go_meet
            exact ⟨false, rfl, ⟨fun z => absurd z (by decide), fun z => absurd z.2 CC.out⟩, S1⟩
        · have d1 : decide ((a : Int) < (i : Int)) = false := decide_eq_false (by omega)
          have d1' : ¬ (a : Int) < (i : Int) := by omega
          have CC := jb.mk c1
          go_wp2_with fail
          go_meet
          exact ⟨false, rfl, ⟨fun z => absurd z (by decide), fun z => absurd z.1 CC.out⟩, S1⟩
      case rest =>
      as_aux_lemma =>
      clear S1
      obtain ⟨bb, rfl, hbb, S1⟩ := hcut
      have HBB := jb.mk hbb
      clear hbb
      go_upto_if 199 with fail
      go_cut [] from 199 to 199 (fun wc => ∃ l2, SoR base gb 53 tl w0 l2 wc ∧ SymP.Keep undef l1 l2 a mid ∧ SymP.Srt R undef l2 a mid)
      case first =>
        cases bb
        · have Z := jb.mk (show SymP.Srt R undef l1 a mid from by
            by_cases z : a < i ∧ i < mid
            · exact absurd (HBB.out.2 z) (by decide)
            · by_cases y : i = a
              · have := QB.out; rw [y] at this; exact this
              · have := QA.out; rw [show i = mid by omega] at this; exact this)
          go_wp2_with fail
          go_meet
          exact ⟨l1, S1.out, SymP.Keep.refl _ _ _ _, Z.out⟩
        · obtain ⟨c1, c2⟩ := HBB.out.1 rfl
          have HR := jb.mk (fun w hS => IH.out l1 L1.out A1.out a i mid (by omega) c1 c2 (by omega) QA.out QB.out QC.out _ _ _ rfl rfl rfl w hS)
          go_wp2_with (go_at_call 93; (with_reducible refine (HR.out _ S1.out).mono ?_); rintro e w1 ⟨rfl, hq⟩; have HQ := jb.mk hq; clear hq)
          go_meet
          exact HQ.out
      case rest =>
      as_aux_lemma =>
      clear S1
      obtain ⟨l2, s2, k2, r2⟩ := hcut
      have A2 := jb.mk (fun x hx => A1.out x (k2.2.1.mem_iff.1 hx) : ∀ x ∈ l2, PS P x)
      have L2 := jb.mk (k2.1.trans L1.out)
      have S2 := jb.mk s2
      have KB := jb.mk k2
      have RB := jb.mk r2
      have QD2 := jb.mk (SymP.Srt.out QD.out k2 (.inr (Nat.le_refl _)))
      have QE2 := jb.mk (SymP.Srt.out QE.out k2 (.inr (by omega)))
      have QF2 := jb.mk (SymP.Crs.out QF.out k2 (by omega) (by omega) (.inr (Nat.le_refl _)))
      have FIN : ∀ l3, SymP.Keep undef l2 l3 mid b → SymP.Srt R undef l3 mid b → jb (Srtd R l a b l3) := fun l3 k3 r3 => ⟨by
        have z := SymP.join l1 l2 l3 a mid b (by omega) (by omega) LOW.out k2 r2 k3 r3
        exact ⟨KA.out.trans z.1, z.2⟩⟩
      have FIN := jb.mk FIN
      clear s2 k2 r2 QD QE QF QA QB QC LOW A1 L1 KA KB RB
      by_cases c1 : mid < t
      · have d1 : decide ((mid : Int) < (t : Int)) = true := decide_eq_true (by omega)
        have d1' : (mid : Int) < (t : Int) := by omega
        by_cases c2 : t < b
        · have d2 : decide ((t : Int) < (b : Int)) = true := decide_eq_true (by omega)
          have d2' : (t : Int) < (b : Int) := by omega
          have HR := jb.mk (fun w hS => IH.out l2 L2.out A2.out mid t b (by omega) c1 c2 (by omega) QD2.out QE2.out QF2.out _ _ _ rfl rfl rfl w hS)
          go_wp2_with (go_at_call 93; (with_reducible refine (HR.out _ S2.out).mono ?_); rintro e w1 ⟨rfl, hq⟩; have HQ := jb.mk hq; clear hq)
          go_end0
          obtain ⟨l3, s3, k3, r3⟩ := HQ.out
          exact ⟨rfl, l3, s3, (FIN.out l3 k3 r3).out⟩
        · have d2 : decide ((t : Int) < (b : Int)) = false := decide_eq_false (by omega)
          have d2' : ¬ (t : Int) < (b : Int) := by omega
          have Z := jb.mk (show SymP.Srt R undef l2 mid b from by have := QD2.out; rw [show t = b by omega] at this; exact this)
          go_wp2_with fail
          go_end0
          exact ⟨rfl, l2, S2.out, (FIN.out l2 (SymP.Keep.refl _ _ _ _) Z.out).out⟩
      · have d1 : decide ((mid : Int) < (t : Int)) = false := decide_eq_false (by omega)
        have d1' : ¬ (mid : Int) < (t : Int) := by omega
        have Z := jb.mk (show SymP.Srt R undef l2 mid b from by have := QE2.out; rw [show t = mid by omega] at this; exact this)
        go_wp2_with fail
        go_end0
        exact ⟨rfl, l2, S2.out, (FIN.out l2 (SymP.Keep.refl _ _ _ _) Z.out).out⟩

end Go.Proofs.YtoideilmkcpilaaGreatDoor.SymW
