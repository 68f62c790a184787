/- The stable sort of rows of numbers, walked. -/
import Derived.Test.YtoideilmkcpilaaGreatDoorProg
import Derived.Below
import Derived.Deep.Draws
import Derived.Deep.AppendLies
import Derived.Maps.AppendAt
import Derived.OwnWalk
import Derived.Laws.BytesArg
import Derived.Laws.MakeOwn
import Derived.Laws.OwnMore
import Derived.Deep.OwnRows
import Derived.Tactics
import Derived.Lib.ConvBytes
import Derived.Laws.Slices
import Derived.WalkKit
import Derived.KernelRfl
import Derived.RowKit3
import Derived.Deep.LoopGhost
import Derived.Deep.QuietTactic
import Derived.BigQuiet
import Derived.WideLaws
import Derived.Deep.DeepCutAuto
import Derived.Deep.CutBlock
import Derived.Deep.RegionHeld3
import Derived.Laws.Rows
import Derived.Lib.AppendStr
import Derived.ArgAppend
import Derived.Laws.IdiomCopy
import Derived.OrdersHeld
import Derived.Laws.BitsLemmas
import Derived.RowKit
import Derived.Shelf.Abstract
import Derived.Deep.RegionHeld3
import Derived.Shelf.RegionOpenPlain
import Derived.BigQuiet
import Derived.BigRegion
import Derived.WalkKit
import Derived.Deep.LoopGhost
import Derived.Deep.DeepCutAuto
import Derived.Test.YtoideilmkcpilaaGreatDoorWWords
import Derived.Test.YtoideilmkcpilaaGreatDoorWLast
import Derived.Test.YtoideilmkcpilaaGreatDoorWTab
import Derived.Test.YtoideilmkcpilaaGreatDoorWQPut
import Derived.Test.YtoideilmkcpilaaGreatDoorWApart
import Derived.Test.YtoideilmkcpilaaGreatDoorWArr
import Derived.Test.YtoideilmkcpilaaGreatDoorWZeros
import Derived.Test.YtoideilmkcpilaaGreatDoorWFoot
import Derived.Test.YtoideilmkcpilaaGreatDoorWKept
import Derived.Test.YtoideilmkcpilaaGreatDoorWShare
import Derived.Test.YtoideilmkcpilaaGreatDoorWN
import Derived.Test.YtoideilmkcpilaaGreatDoorWEqStruct
import Derived.Test.YtoideilmkcpilaaGreatDoorWRepsOne
import Derived.Test.YtoideilmkcpilaaGreatDoorWNEv
import Derived.Test.YtoideilmkcpilaaGreatDoorWMore
import Derived.Test.YtoideilmkcpilaaGreatDoorSymP
import Derived.Shelf.Abstract
import Derived.Deep.RegionHeld3
import Derived.Shelf.RegionOpenPlain
import Derived.BigQuiet
import Derived.BigRegion
import Derived.WalkKit
import Derived.Deep.LoopGhost
import Derived.Deep.DeepCutAuto
namespace Go.Proofs.YtoideilmkcpilaaGreatDoor.SymW
open Go.RowKit Go.Proofs.YtoideilmkcpilaaGreatDoorW.PrintWords Go.Proofs.YtoideilmkcpilaaGreatDoorW.PrintLast Go.Proofs.YtoideilmkcpilaaGreatDoorW.PrintMore
set_option linter.unusedVariables false
set_option linter.unusedSimpArgs false
/-- Behind w: base's blocks as they were, the row gb holds l, w's other blocks as they were. -/
def SoR (base : Nat) (gb : Nat) (t : TypeId) (tl : List Value) (w : World) (l : List Value) (W : World) : Prop :=
  base ≤ gb ∧ Below base w W ∧ W.heap[gb]? = some (.cells (l ++ tl).toArray t (0, 0)) ∧ ∀ k, k < w.heap.size → k ≠ gb → W.heap[k]? = w.heap[k]?
section
variable {base gb : Nat} {t : TypeId} {tl : List Value} {w W W' : World} {l : List Value}
theorem SoR.grow (h : SoR base gb t tl w l W) (hb : Below W.heap.size W W') : SoR base gb t tl w l W' := by
  obtain ⟨h0, h1, h2, h3⟩ := h
  have lt := blk_lt h2
  exact ⟨h0, h1.trans (hb.mono (by omega)), qu h2 hb, fun k hk hne => (hb.block k (Nat.lt_of_lt_of_le hk h1.size)).trans (h3 k hk hne)⟩
theorem SoR.at (h : SoR base gb t tl w l W) (j : Nat) (hj : j < l.length) : W.cell? ⟨gb, j, none⟩ = some (l.getD j undef) := by
  rw [qh h.2.2.1 j]; simp [List.getD_eq_getElem?_getD, hj, List.getElem?_append_left hj]
theorem SoR.fr (h : SoR base gb t tl w l W) (j : Nat) : W.frozen? ⟨gb, j, none⟩ = false := qg h.2.2.1 j
theorem SoR.set (h : SoR base gb t tl w l W) (j : Nat) (v : Value) (hj : j < l.length) : SoR base gb t tl w (l.set j v) (W.setCell ⟨gb, j, none⟩ v) := by
  obtain ⟨h0, h1, h2, h3⟩ := h
  refine ⟨h0, h1.setCell h0 _, ?_, fun k hk hne => (Below.heap_setCell W ⟨gb, j, none⟩ v k hne).trans (h3 k hk hne)⟩
  rw [blk_set h2 j v]; simp [List.set_append_left, hj]
theorem SoR.keep {a b : Addr} {x y : Value} (h : SoR base gb t tl w l W ∧ W.cell? a = some x ∧ W.cell? b = some y) (hb : Below W.heap.size W W') : SoR base gb t tl w l W' ∧ W'.cell? a = some x ∧ W'.cell? b = some y :=
  ⟨h.1.grow hb, (hb.cell (World.block_lt_of_cell? W _ h.2.1)).trans h.2.1, (hb.cell (World.block_lt_of_cell? W _ h.2.2)).trans h.2.2⟩
/-- Two entries change places. -/
theorem SoR.swap (h : SoR base gb t tl w l W) (i j : Nat) (hi : i < l.length) (hj : j < l.length) (x y : Value) (hx : l.getD i undef = x) (hy : l.getD j undef = y) :
    SoR base gb t tl w (SymP.swp undef l i j) ((W.setCell ⟨gb, i, none⟩ y).setCell ⟨gb, j, none⟩ x).drew := by
  have z := ((h.set i y hi).set j x (by simpa using hj)).grow (qc (Below.refl _ _))
  unfold SymP.swp; rw [hx, hy]; exact z
end
def isSl (v : Value) : Prop := ∃ A n c, v = .slice A n c
theorem all_swp (Q : Value → Prop) (l : List Value) (i j : Nat) (hi : i < l.length) (hj : j < l.length) (h : ∀ x ∈ l, Q x) : ∀ x ∈ SymP.swp undef l i j, Q x := fun x hx => h x ((SymP.swp_perm undef l i j hi hj).mem_iff.1 hx)
theorem getD_in (l : List Value) (i : Nat) (h : i < l.length) : l.getD i undef ∈ l := by simp [List.getD_eq_getElem?_getD, h]
/-- What a call leaves of the row: relation Q between the row before and behind. -/
def Lvs (base gb : Nat) (t : TypeId) (tl : List Value) (w0 : World) (Q : List Value → Prop) (w' : World) : Prop := ∃ l', SoR base gb t tl w0 l' w' ∧ Q l'
set_option maxHeartbeats 8000000 in
set_option maxRecDepth 100000 in
theorem swr.calls (base gb cap : Nat) (tl : List Value) (w0 : World) (cv : Value) (l : List Value) (hl : l.length ≤ 1000) (hP : ∀ x ∈ l, isSl x) (a b n : Nat) (za zb zn : Int) (hza : za = (a : Int)) (hzb : zb = (b : Int)) (hzn : zn = (n : Int)) (hab : a + n ≤ b) (hbl : b + n ≤ l.length) (zl : Int) (hzl : zl = (l.length : Int)) (w : World) (hS : SoR base gb 53 tl w0 l w) :
    Calls Tryz.prog 118 #[.slice (some ⟨gb, 0, none⟩) l.length cap, .int .i64 za, .int .i64 zb, .int .i64 zn, cv] w fun e w' => e = .returned (.tuple #[]) ∧ Lvs base gb 53 tl w0 (fun l' => SymP.Swr undef l l' a b n) w' := by
  subst hza hzb hzn hzl
  have S0 := jb.mk hS
  have A0 := jb.mk hP
  clear hS hP
  have mixed : Tryz.prog.follows .mixedOrders = true := by kernel_rfl
  go_enter Tryz.func118, Tryz.ntmps118
  go_wp2
  go_loopg [10] n (fun g1 vi wr => ∃ (i : Nat) (li : List Value), vi = .int .i64 i ∧ i ≤ n ∧ n - i ≤ g1 ∧ li.length = l.length ∧ jb (∀ x ∈ li, isSl x) ∧ jb (SoR base gb 53 tl w0 li wr) ∧ jb (SymP.Swr undef l li a b i))
  case atStart => exact ⟨0, l, by go_num, by omega, by omega, rfl, A0, S0, ⟨SymP.Swr.start undef l a b⟩⟩
  case round =>
    clear S0 A0
    obtain ⟨i, li, rfl, hin, hg1, hli, A1, S1, Q1⟩ := hrel
    by_cases hlt : i < n
    · have hltz : (i : Int) < (n : Int) := by omega
      have k1 := S1.out.at (a + i) (by omega)
      have k2 := S1.out.at (b + i) (by omega)
      have o1 := A1.out _ (getD_in li (a + i) (by omega))
      have o2 := A1.out _ (getD_in li (b + i) (by omega))
      have f1 := S1.out.fr (a + i)
      have f2 := S1.out.fr (b + i)
      have kc : ∀ v, (wr.setCell ⟨gb, a + i, none⟩ v).cell? ⟨gb, b + i, none⟩ = some (li.getD (b + i) undef) := fun v => (World.cell?_setCell_other _ _ _ _ (by intro e'; simp only [Addr.mk.injEq] at e'; omega)).trans k2
      have Q2 := jb.mk (Q1.out.step (by omega) (by omega))
      have A2 := jb.mk (all_swp isSl li (a + i) (b + i) (by omega) (by omega) A1.out)
      obtain ⟨x, hx⟩ : ∃ x, li.getD (a + i) undef = x := ⟨_, rfl⟩
      obtain ⟨y, hy⟩ : ∃ x, li.getD (b + i) undef = x := ⟨_, rfl⟩
      have S2 := jb.mk (S1.out.swap (a + i) (b + i) (by omega) (by omega) x y hx hy)
      have kc := kc y
      rw [hx] at k1 o1
      rw [hy] at k2 o2 kc
      clear hx hy S1 A1 Q1
      obtain ⟨x1, x2, x3, rfl⟩ := o1
      obtain ⟨y1, y2, y3, rfl⟩ := o2
      have p1 : (0 : Int) ≤ (a : Int) + (i : Int) := by omega
      have b1 : (a : Int) + (i : Int) < (l.length : Int) := by omega
      have r1 : IntKind.i64.wrap ((a : Int) + (i : Int)) = (a : Int) + (i : Int) := by rw [IntKind.wrap_i64]; omega
      have p2 : (0 : Int) ≤ (b : Int) + (i : Int) := by omega
      have b2 : (b : Int) + (i : Int) < (l.length : Int) := by omega
      have r2 : IntKind.i64.wrap ((b : Int) + (i : Int)) = (b : Int) + (i : Int) := by rw [IntKind.wrap_i64]; omega
      have e1 : ((a : Int) + (i : Int)).toNat = a + i := by omega
      have e2 : ((b : Int) + (i : Int)).toNat = b + i := by omega
      go_wp2_with fail
      go_big_region_o
      clear k1 k2 kc f1 f2 e1 e2 r1 r2
      generalize ((wr.setCell ⟨gb, a + i, none⟩ _).setCell ⟨gb, b + i, none⟩ _).drew = w4 at S2 ⊢
      go_wp2
      go_roundg (n - (i + 1))
      case measure => omega
      case rel => exact ⟨i + 1, _, by first | rfl | go_num, by omega, by omega, by rw [SymP.swp_length]; exact hli, A2, S2, Q2⟩
    · have hltz : ¬ (i : Int) < (n : Int) := by omega
      have e : i = n := by omega
      subst e
      have S3 := S1.out
      have Q3 := Q1.out
      go_wp2
      go_end0
      exact ⟨rfl, li, S3, Q3⟩
set_option maxHeartbeats 8000000 in
set_option maxRecDepth 100000 in
theorem rot.calls (base gb cap : Nat) (tl : List Value) (w0 : World) (cv : Value) (l : List Value) (hl : l.length ≤ 1000) (hP : ∀ x ∈ l, isSl x) (a m b : Nat) (za zm zb : Int) (hza : za = (a : Int)) (hzm : zm = (m : Int)) (hzb : zb = (b : Int)) (ham : a < m) (hmb : m < b) (hbl : b ≤ l.length) (w : World) (hS : SoR base gb 53 tl w0 l w) :
    Calls Tryz.prog 103 #[.slice (some ⟨gb, 0, none⟩) l.length cap, .int .i64 za, .int .i64 zm, .int .i64 zb, cv] w fun e w' => e = .returned (.tuple #[]) ∧ Lvs base gb 53 tl w0 (fun l' => SymP.Rot undef l l' a m b) w' := by
  subst hza hzm hzb
  have S0 := jb.mk hS
  have A0 := jb.mk hP
  have HW := jb.mk (show ∀ (li : List Value), li.length = l.length → (∀ x ∈ li, isSl x) → ∀ (w : World), SoR base gb 53 tl w0 li w → ∀ (a b n : Nat) (za zb zn : Int), za = (a : Int) → zb = (b : Int) → zn = (n : Int) → a + n ≤ b → b + n ≤ l.length →
      Calls Tryz.prog 118 #[.slice (some ⟨gb, 0, none⟩) l.length cap, .int .i64 za, .int .i64 zb, .int .i64 zn, cv] w fun e w' => e = .returned (.tuple #[]) ∧ Lvs base gb 53 tl w0 (fun l' => SymP.Swr undef li l' a b n) w' from
    fun li hll hp w hs a b n za zb zn e1 e2 e3 h1 h2 => by have z := swr.calls base gb cap tl w0 cv li (by omega) hp a b n za zb zn e1 e2 e3 h1 (by omega) _ rfl w hs; rw [hll] at z; exact z)
  clear hS hP
  go_enter Tryz.func103, Tryz.ntmps103
  go_wp2
  go_loopg [10, 11] (b - a) (fun g1 vi vj wr => ∃ (i j : Nat) (li : List Value), vi = .int .i64 i ∧ vj = .int .i64 j ∧ 1 ≤ i ∧ 1 ≤ j ∧ a + i ≤ m ∧ m + j ≤ b ∧ i + j ≤ g1 ∧ li.length = l.length ∧ jb (∀ x ∈ li, isSl x) ∧ jb (SoR base gb 53 tl w0 li wr) ∧ jb (SymP.RotSt undef l li a m b i j))
  case atStart => exact ⟨m - a, b - m, l, by go_num, by go_num, by omega, by omega, by omega, by omega, by omega, rfl, A0, S0, ⟨SymP.RotSt.start undef l a m b (by omega) (by omega)⟩⟩
  case round =>
    clear S0 A0
    obtain ⟨i, j, li, rfl, rfl, hi1, hj1, ham', hmb', hg1, hli, A1, S1, Q1⟩ := hrel
    have hmi : (m : Int) - (i : Int) = ((m - i : Nat) : Int) := by omega
    have hmji : (m : Int) + (j : Int) - (i : Int) = ((m + j - i : Nat) : Int) := by omega
    have b1 : 0 ≤ (m : Int) - (i : Int) := by omega
    have b2 : 0 ≤ (m : Int) + (j : Int) - (i : Int) := by omega
    by_cases hij : i = j
    · subst hij
      have hne : ((i : Int) != (i : Int)) = false := by simp
      have HC := jb.mk (HW.out li hli A1.out wr S1.out (m - i) m i)
      clear S1
      go_wp2_with (go_at_call 118; (with_reducible refine (HC.out _ _ _ rfl rfl rfl (by omega) (by omega)).mono ?_); rintro e w1 ⟨rfl, hq⟩; have HQ := jb.mk hq; clear hq)
      go_end0
      obtain ⟨l', s', q'⟩ := HQ.out
      exact ⟨rfl, l', s', SymP.RotSt.done Q1.out (by omega) q'⟩
    · have hne : ((i : Int) != (j : Int)) = true := by rw [bne_iff_ne]; omega
      by_cases hlt : j < i
      · have hd : decide ((i : Int) > (j : Int)) = true := decide_eq_true (by omega)
        have hd' : (j : Int) < (i : Int) := by omega
        have HC := jb.mk (HW.out li hli A1.out wr S1.out (m - i) m j)
        clear S1
        go_wp2_with (go_at_call 118; (with_reducible refine (HC.out _ _ _ rfl rfl rfl (by omega) (by omega)).mono ?_); rintro e w1 ⟨rfl, hq⟩; have HQ := jb.mk hq; clear hq)
        obtain ⟨l', s', q'⟩ := HQ.out
        have L' := jb.mk (show l'.length = l.length from q'.1.trans hli)
        have S2 := jb.mk s'
        have A2 := jb.mk (fun x hx => A1.out x (q'.2.1.mem_iff.1 hx) : ∀ x ∈ l', isSl x)
        have Q2 := jb.mk (SymP.RotSt.left Q1.out hlt (by omega) (by omega) q')
        clear s' q' HQ
        go_roundg (i - j + j)
        case measure => omega
        case rel => exact ⟨i - j, j, l', by go_num, rfl, by omega, by omega, by omega, by omega, by omega, L'.out, A2, S2, Q2⟩
      · have hd : decide ((i : Int) > (j : Int)) = false := decide_eq_false (by omega)
        have hd' : ¬ (j : Int) < (i : Int) := by omega
        have HC := jb.mk (HW.out li hli A1.out wr S1.out (m - i) (m + j - i) i)
        clear S1
        go_wp2_with (go_at_call 118; (with_reducible refine (HC.out _ _ _ rfl rfl rfl (by omega) (by omega)).mono ?_); rintro e w1 ⟨rfl, hq⟩; have HQ := jb.mk hq; clear hq)
        obtain ⟨l', s', q'⟩ := HQ.out
        have L' := jb.mk (show l'.length = l.length from q'.1.trans hli)
        have S2 := jb.mk s'
        have A2 := jb.mk (fun x hx => A1.out x (q'.2.1.mem_iff.1 hx) : ∀ x ∈ l', isSl x)
        have Q2 := jb.mk (SymP.RotSt.right Q1.out (by omega) (by omega) (by omega) q')
        clear s' q' HQ
        go_roundg (i + (j - i))
        case measure => omega
        case rel => exact ⟨i, j - i, l', rfl, by go_num, by omega, by omega, by omega, by omega, by omega, L'.out, A2, S2, Q2⟩
/-- The comparer decides of every two in [a, b). -/
def DecA (c : Value → Value → Int) (R : Value → Value → Prop) (l : List Value) (a b : Nat) : Prop := ∀ p q, a ≤ p → p < q → q < b → SymP.Dec c R (l.getD p undef) (l.getD q undef)
def PS (P : Value → Prop) (x : Value) : Prop := P x ∧ isSl x
theorem PS.sl {P : Value → Prop} {l : List Value} (h : ∀ x ∈ l, PS P x) : ∀ x ∈ l, isSl x := fun x hx => (h x hx).2
def Srtd (R : Value → Value → Prop) (l : List Value) (a b : Nat) (l' : List Value) : Prop := SymP.Keep undef l l' a b ∧ SymP.Srt R undef l' a b
theorem dec_of {c : Value → Value → Int} {R : Value → Value → Prop} {l li : List Value} {a b i j : Nat} (hD : DecA c R l a b) (hK : SymP.Keep undef l li a i) (ha : a ≤ j) (hj : j < i) (hi : i < b) : SymP.Dec c R (li.getD j undef) (li.getD i undef) := by
  obtain ⟨k, k1, k2, k3⟩ := hK.2.2.2 j ha hj
  rw [k3, hK.2.2.1 i (.inr (Nat.le_refl _))]
  exact hD k i k1 k2 hi
set_option maxHeartbeats 8000000 in
set_option maxRecDepth 100000 in
theorem ins.calls (base gb cap : Nat) (tl : List Value) (w0 : World) (c : Value → Value → Int) (g : Nat) (lb : Array Value) (P : Value → Prop) (R : Value → Value → Prop) (tr : ∀ x y z, R x y → R y z → R x z) (eg : ∀ args w, (callFunc g args).run Tryz.prog w = .ok (.enter g args) w)
    (hp : ∀ W l' x y, SoR base gb 53 tl w0 l' W → P x → P y → Calls Tryz.prog g (#[x, y] ++ lb) W fun e w' => e = .returned (.int .i64 (c x y)) ∧ Below W.heap.size W w')
    (l : List Value) (hl : l.length ≤ 1000) (hP : ∀ x ∈ l, PS P x) (a b : Nat) (za zb : Int) (hza : za = (a : Int)) (hzb : zb = (b : Int)) (hab : a < b) (hbl : b ≤ l.length) (hD : DecA c R l a b) (w : World) (hS : SoR base gb 53 tl w0 l w) :
    Calls Tryz.prog 92 #[.slice (some ⟨gb, 0, none⟩) l.length cap, .int .i64 za, .int .i64 zb, .func (.func g) #[] lb] w fun e w' => e = .returned (.tuple #[]) ∧ Lvs base gb 53 tl w0 (Srtd R l a b) w' := by
  subst hza hzb
  have HP := jb.mk hp
  have S0 := jb.mk hS
  have A0 := jb.mk hP
  have HD := jb.mk hD
  have TR := jb.mk tr
  clear hp hS hP hD tr
  have mixed : Tryz.prog.follows .mixedOrders = true := by kernel_rfl
  have ra : IntKind.i64.wrap ((a : Int) + 1) = (a : Int) + 1 := by rw [IntKind.wrap_i64]; omega
  go_enter Tryz.func92, Tryz.ntmps92
  go_wp2
  clear ra
  go_loopg [8] (l.length) (fun g1 vi wr => ∃ (i : Nat) (lk : List Value), vi = .int .i64 i ∧ a + 1 ≤ i ∧ i ≤ b ∧ b - i ≤ g1 ∧ lk.length = l.length ∧ jb (∀ x ∈ lk, PS P x) ∧ jb (SoR base gb 53 tl w0 lk wr) ∧ jb (Srtd R l a i lk))
  case atStart => exact ⟨a + 1, l, by go_num, by omega, by omega, by omega, rfl, A0, S0, ⟨SymP.Keep.refl _ _ _ _, fun i j h1 h2 h3 => by omega⟩⟩
  case round =>
    clear S0 A0
    obtain ⟨i, li, rfl, hi1, hib, hg1, hli, A1, S1, K1⟩ := hrel
    by_cases hlt : i < b
    · have hltz : (i : Int) < (b : Int) := by omega
      go_wp2
      go_loopg [9] i (fun g2 vj wr2 => ∃ (j : Nat) (lj : List Value), vj = .int .i64 j ∧ a ≤ j ∧ j ≤ i ∧ j ≤ g2 ∧ lj.length = l.length ∧ jb (∀ x ∈ lj, PS P x) ∧ jb (SoR base gb 53 tl w0 lj wr2) ∧ jb (SymP.ShR undef li lj i j) ∧ jb (j = i ∨ R (li.getD i undef) (li.getD j undef)))
      case atStart => exact ⟨i, li, rfl, by omega, Nat.le_refl _, Nat.le_refl _, hli, A1, S1, ⟨SymP.ShR.start li i⟩, ⟨.inl rfl⟩⟩
      case round =>
        clear S1 A1
        obtain ⟨j, lj, rfl, haj, hji, hg2, hlj, A2, S2, H2, HI⟩ := hrel
        have OUT : (j = a ∨ R (li.getD (j - 1) undef) (li.getD i undef)) → jb (Srtd R l a (i + 1) lj) := fun z => ⟨by
          have q := SymP.ShR.done TR.out H2.out ⟨haj, hji⟩ (by omega) K1.out.2 z HI.out
          exact ⟨(K1.out.1.wide a (i + 1) (Nat.le_refl _) (by omega)).trans q.1, q.2⟩⟩
        by_cases hj0 : a < j
        · obtain ⟨jp, rfl⟩ : ∃ q, j = q + 1 := ⟨j - 1, by omega⟩
          have hs : jp + 1 < lj.length := by omega
          have c1 := S2.out.at (jp + 1) (by omega)
          have c0 := S2.out.at jp (by omega)
          have a1 := A2.out _ (getD_in lj (jp + 1) (by omega))
          have a0 := A2.out _ (getD_in lj jp (by omega))
          have x1 : lj.getD (jp + 1) undef = li.getD i undef := by rw [H2.out.2.2 (jp + 1), if_neg (by omega), if_pos rfl]
          have x0 : lj.getD jp undef = li.getD jp undef := by rw [H2.out.2.2 jp, if_neg (by omega), if_neg (by omega)]
          have DC := dec_of (c := c) HD.out K1.out.1 (j := jp) (by omega) (by omega) hlt
          rw [← x1, ← x0] at DC
          have HC : ∀ W, SoR base gb 53 tl w0 lj W → Calls Tryz.prog g (#[lj.getD (jp + 1) undef, lj.getD jp undef] ++ lb) W fun e w' => e = .returned (.int .i64 (c (lj.getD (jp + 1) undef) (lj.getD jp undef))) ∧ Below W.heap.size W w' := fun W hW => HP.out W lj _ _ hW a1.1 a0.1
          obtain ⟨x, hx⟩ : ∃ x, lj.getD (jp + 1) undef = x := ⟨_, rfl⟩
          obtain ⟨y, hy⟩ : ∃ x, lj.getD jp undef = x := ⟨_, rfl⟩
          rw [hx] at c1 a1 x1 DC
          rw [hy] at c0 a0 x0 DC
          have hz : ((jp + 1 : Nat) : Int) = (jp : Int) + 1 := by omega
          rw [hz]
          have p1 : (0 : Int) ≤ (jp : Int) + 1 := by omega
          have b1 : (jp : Int) + 1 < (l.length : Int) := by omega
          have e1 : ((jp : Int) + 1).toNat = jp + 1 := by omega
          have r1 : IntKind.i64.wrap ((jp : Int) + 1) = (jp : Int) + 1 := by rw [IntKind.wrap_i64]; omega
          have p0 : (0 : Int) ≤ (jp : Int) := by omega
          have b0 : (jp : Int) < (l.length : Int) := by omega
          have r0 : IntKind.i64.wrap (jp : Int) = (jp : Int) := by rw [IntKind.wrap_i64]; omega
          have dj : decide ((jp : Int) + 1 > (a : Int)) = true := decide_eq_true (by omega)
          have dj' : (a : Int) < (jp : Int) + 1 := by omega
          rw [hx, hy] at HC
          have X1 := jb.mk x1
          have X0 := jb.mk x0
          clear x1 x0
          have SK := jb.mk (show SoR base gb 53 tl w0 lj wr ∧ wr.cell? ⟨gb, jp + 1, none⟩ = some x ∧ wr.cell? ⟨gb, jp, none⟩ = some y from ⟨S2.out, c1, c0⟩)
          have HC1 := jb.mk (show ∀ W, (SoR base gb 53 tl w0 lj W ∧ W.cell? ⟨gb, jp + 1, none⟩ = some x ∧ W.cell? ⟨gb, jp, none⟩ = some y) → Calls Tryz.prog g (#[x, y] ++ lb) W fun e w' => e = .returned (.int .i64 (c x y)) ∧ Below W.heap.size W w' from fun W hW => HC W hW.1)
          clear HC c1 c0 S2 hz
          by_cases hc : c x y < 0
          · have hd : decide (c x y < 0) = true := decide_eq_true hc
            have RX := jb.mk (DC.1 hc)
            clear DC
            generalize c x y = cv at hc hd HC1
            go_wp2_with fail
            go_region_held3 (fun w' => SoR base gb 53 tl w0 lj w' ∧ w'.cell? ⟨gb, jp + 1, none⟩ = some x ∧ w'.cell? ⟨gb, jp, none⟩ = some y)
              (first | exact SoR.keep (by first | assumption | exact SK.out) (by first | assumption | exact qc (Below.refl _ _)))
              (first | (go_at_fn g; refine (HC1.out _ (by assumption)).mono ?_; rintro e w' ⟨rfl, hb'⟩))
            rename_i hH
            have S3 := jb.mk hH.1
            clear hH SK hb'
            rename_i w2 _
            go_wp2_with fail
            have k1 := S3.out.at (jp + 1) (by omega)
            have k0 := S3.out.at jp (by omega)
            rw [hx] at k1
            rw [hy] at k0
            have f1 := S3.out.fr (jp + 1)
            have f0 := S3.out.fr jp
            have kc : (w'.setCell ⟨gb, jp + 1, none⟩ y).cell? ⟨gb, jp, none⟩ = some y := (World.cell?_setCell_other _ _ _ _ (by intro e'; simp only [Addr.mk.injEq] at e'; omega)).trans k0
            have S4 := jb.mk (S3.out.swap (jp + 1) jp (by omega) (by omega) x y hx hy)
            have A4 := jb.mk (all_swp (PS P) lj (jp + 1) jp (by omega) (by omega) A2.out)
            have H4 := jb.mk (H2.out.step (by omega) (by omega))
            have I4 : jb (jp = i ∨ R (li.getD i undef) (li.getD jp undef)) := ⟨.inr (by rw [← X1.out, ← X0.out]; exact RX.out)⟩
            have o1 : isSl x := a1.2
            have o0 : isSl y := a0.2
            clear S3 A2 HI OUT HC1 hx hy a1 a0 X1 X0 RX H2
            obtain ⟨xa, xn, xc, rfl⟩ := o1
            obtain ⟨ya, yn, yc, rfl⟩ := o0
            go_big_region_o
            clear k1 k0 kc f1 f0
            generalize ((w'.setCell ⟨gb, jp + 1, none⟩ _).setCell ⟨gb, jp, none⟩ _).drew = w4 at S4 ⊢
            clear e1
            go_wp2
            go_roundg jp
            case measure => omega
            case rel => exact ⟨jp, _, by first | rfl | go_num, by omega, by omega, Nat.le_refl _, by rw [SymP.swp_length]; exact hlj, A4, S4, H4, I4⟩
          · have hd : decide (c x y < 0) = false := decide_eq_false hc
            have O4 := OUT (.inr (by rw [show jp + 1 - 1 = jp by omega, ← X1.out, ← X0.out]; exact DC.2 hc))
            clear DC
            generalize c x y = cv at hc hd HC1
            go_wp2_with fail
            go_region_held3 (fun w' => SoR base gb 53 tl w0 lj w' ∧ w'.cell? ⟨gb, jp + 1, none⟩ = some x ∧ w'.cell? ⟨gb, jp, none⟩ = some y)
              (first | exact SoR.keep (by first | assumption | exact SK.out) (by first | assumption | exact qc (Below.refl _ _)))
              (first | (go_at_fn g; refine (HC1.out _ (by assumption)).mono ?_; rintro e w' ⟨rfl, hb'⟩))
            rename_i hH
            have S3 := jb.mk hH.1
            clear hH SK hb' HC1 OUT hx hy X1 X0
            go_wp2
            go_roundg (b - (i + 1))
            case measure => omega
            case rel => exact ⟨i + 1, lj, by go_num, by omega, by omega, by omega, hlj, A2, S3, O4⟩
        · have e : j = a := by omega
          subst e
          have O4 := OUT (.inl rfl)
          go_wp2_with fail
          go_big_region_o
          have S3 := jb.mk (S2.out.grow (qc (Below.refl _ _)))
          clear S2 OUT
          generalize wr.drew = w2 at S3 ⊢
          go_wp2
          go_roundg (b - (i + 1))
          case measure => omega
          case rel => exact ⟨i + 1, lj, by go_num, by omega, by omega, by omega, hlj, A2, S3, O4⟩
    · have hltz : ¬ (i : Int) < (b : Int) := by omega
      have e : i = b := by omega
      subst e
      have S3 := S1.out
      have F := K1.out
      go_wp2
      go_end0
      exact ⟨rfl, li, S3, F⟩

end Go.Proofs.YtoideilmkcpilaaGreatDoor.SymW
