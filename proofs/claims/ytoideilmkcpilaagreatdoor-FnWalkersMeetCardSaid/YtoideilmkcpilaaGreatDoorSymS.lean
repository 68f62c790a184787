/- The stable sort of rows of numbers, walked. -/
import Derived.Test.YtoideilmkcpilaaGreatDoorProg
import Derived.Below
import Derived.Deep.Draws
import Derived.Deep.AppendLies
import Derived.Maps.AppendAt
import Derived.OwnWalk
import Derived.Laws.BytesArg
import Derived.Laws.MakeOwn
import Derived.Laws.OwnMore
import Derived.Deep.OwnRows
import Derived.Tactics
import Derived.Lib.ConvBytes
import Derived.Laws.Slices
import Derived.WalkKit
import Derived.KernelRfl
import Derived.RowKit3
import Derived.Deep.LoopGhost
import Derived.Deep.QuietTactic
import Derived.BigQuiet
import Derived.WideLaws
import Derived.Deep.DeepCutAuto
import Derived.Deep.CutBlock
import Derived.Deep.RegionHeld3
import Derived.Laws.Rows
import Derived.Lib.AppendStr
import Derived.ArgAppend
import Derived.Laws.IdiomCopy
import Derived.OrdersHeld
import Derived.Laws.BitsLemmas
import Derived.RowKit
import Derived.Shelf.Abstract
import Derived.Deep.RegionHeld3
import Derived.Shelf.RegionOpenPlain
import Derived.BigQuiet
import Derived.BigRegion
import Derived.WalkKit
import Derived.Deep.LoopGhost
import Derived.Deep.DeepCutAuto
import Derived.Test.YtoideilmkcpilaaGreatDoorWWords
import Derived.Test.YtoideilmkcpilaaGreatDoorWLast
import Derived.Test.YtoideilmkcpilaaGreatDoorWTab
import Derived.Test.YtoideilmkcpilaaGreatDoorWQPut
import Derived.Test.YtoideilmkcpilaaGreatDoorWApart
import Derived.Test.YtoideilmkcpilaaGreatDoorWArr
import Derived.Test.YtoideilmkcpilaaGreatDoorWZeros
import Derived.Test.YtoideilmkcpilaaGreatDoorWFoot
import Derived.Test.YtoideilmkcpilaaGreatDoorWKept
import Derived.Test.YtoideilmkcpilaaGreatDoorWShare
import Derived.Test.YtoideilmkcpilaaGreatDoorWN
import Derived.Test.YtoideilmkcpilaaGreatDoorWEqStruct
import Derived.Test.YtoideilmkcpilaaGreatDoorWRepsOne
import Derived.Test.YtoideilmkcpilaaGreatDoorWNEv
import Derived.Test.YtoideilmkcpilaaGreatDoorWMore
import Derived.Test.YtoideilmkcpilaaGreatDoorSymM
import Derived.Shelf.Abstract
import Derived.Deep.RegionHeld3
import Derived.Shelf.RegionOpenPlain
import Derived.BigQuiet
import Derived.BigRegion
import Derived.WalkKit
import Derived.Deep.LoopGhost
import Derived.Deep.DeepCutAuto
namespace Go.Proofs.YtoideilmkcpilaaGreatDoor.SymW
open Go.RowKit Go.Proofs.YtoideilmkcpilaaGreatDoorW.PrintWords Go.Proofs.YtoideilmkcpilaaGreatDoorW.PrintLast Go.Proofs.YtoideilmkcpilaaGreatDoorW.PrintMore
set_option linter.unusedVariables false
set_option linter.unusedSimpArgs false
theorem sym.calls (base gb cap : Nat) (tl : List Value) (w0 : World) (c : Value → Value → Int) (g : Nat) (lb : Array Value) (P : Value → Prop) (R : Value → Value → Prop) (tr : ∀ x y z, R x y → R y z → R x z) (eg : ∀ args w, (callFunc g args).run Tryz.prog w = .ok (.enter g args) w)
    (hp : ∀ W l' x y, SoR base gb 53 tl w0 l' W → P x → P y → Calls Tryz.prog g (#[x, y] ++ lb) W fun e w' => e = .returned (.int .i64 (c x y)) ∧ Below W.heap.size W w') (len : Nat) (hlen : len ≤ 1000) : ∀ N : Nat, SymIH base gb cap tl w0 c g lb P R len N := by
  intro N
  induction N with
  | zero => intro l hl hP a m b hN; omega
  | succ N ih =>
    intro l hl hP a m b hN ham hmb hbl h1 h2 hC za zm zb e1 e2 e3 w hS
    subst hl
    by_cases c1 : m = a + 1
    · exact sym1.calls base gb cap tl w0 c g lb P R tr eg hp l hlen hP a m b za zm zb e1 e2 e3 c1 ham hmb hbl h1 h2 hC w hS
    · by_cases c2 : b = m + 1
      · exact sym2.calls base gb cap tl w0 c g lb P R tr eg hp l hlen hP a m b za zm zb e1 e2 e3 c2 c1 ham hmb hbl h1 h2 hC w hS
      · exact symg.calls base gb cap tl w0 c g lb P R tr eg hp l hlen hP a m b za zm zb e1 e2 e3 c1 c2 ham hmb hbl h1 h2 hC
          (fun l' hl' hP' a' m' b' hN' => ih l' hl' hP' a' m' b' (by omega)) w hS
set_option maxHeartbeats 8000000 in
set_option maxRecDepth 100000 in
theorem ins0.calls (base gb cap : Nat) (tl : List Value) (w0 : World) (l : List Value) (cv : Value) (hl : l.length ≤ 1000) (a b : Nat) (za zb : Int) (hza : za = (a : Int)) (hzb : zb = (b : Int)) (hab : b ≤ a + 1) (ha : a ≤ 1000) (w : World) (hS : SoR base gb 53 tl w0 l w) :
    Calls Tryz.prog 92 #[.slice (some ⟨gb, 0, none⟩) l.length cap, .int .i64 za, .int .i64 zb, cv] w fun e w' => e = .returned (.tuple #[]) ∧ SoR base gb 53 tl w0 l w' := by
  subst hza hzb
  have S0 := jb.mk hS
  clear hS
  have ra : IntKind.i64.wrap ((a : Int) + 1) = (a : Int) + 1 := by rw [IntKind.wrap_i64]; omega
  have d : ¬ (a : Int) + 1 < (b : Int) := by omega
  go_enter Tryz.func92, Tryz.ntmps92
  go_wp2_with fail
  refine wp_loop_rounds 1 ?_
  rw [rounds_succ]
  go_wp2_with fail
  go_end0
  exact ⟨rfl, S0.out⟩
set_option maxHeartbeats 8000000 in
set_option maxRecDepth 100000 in
theorem sta.calls (base gb cap : Nat) (tl : List Value) (w0 : World) (c : Value → Value → Int) (g : Nat) (lb : Array Value) (P : Value → Prop) (R : Value → Value → Prop) (tr : ∀ x y z, R x y → R y z → R x z) (eg : ∀ args w, (callFunc g args).run Tryz.prog w = .ok (.enter g args) w)
    (hp : ∀ W l' x y, SoR base gb 53 tl w0 l' W → P x → P y → Calls Tryz.prog g (#[x, y] ++ lb) W fun e w' => e = .returned (.int .i64 (c x y)) ∧ Below W.heap.size W w')
    (l : List Value) (hl : l.length < 40) (hl1 : 1 ≤ l.length) (hP : ∀ x ∈ l, PS P x) (hD : DecA c R l 0 l.length) (w : World) (hS : SoR base gb 53 tl w0 l w) :
    Calls Tryz.prog 81 #[.slice (some ⟨gb, 0, none⟩) l.length cap, .int .i64 l.length, .func (.func g) #[] lb] w fun e w' => e = .returned (.tuple #[]) ∧ Lvs base gb 53 tl w0 (Srtd R l 0 l.length) w' := by
  have d2 : ¬ (40 : Int) ≤ (l.length : Int) := by omega
  by_cases h20 : l.length < 20
  · have HC := jb.mk (ins.calls base gb cap tl w0 c g lb P R tr eg hp l (by omega) hP 0 l.length 0 l.length rfl rfl (by omega) (Nat.le_refl _) hD w hS)
    have d1 : ¬ (20 : Int) ≤ (l.length : Int) := by omega
    have d3 : ¬ (20 : Int) < (l.length : Int) := by omega
    clear hp hP hS hD tr d2
    go_enter Tryz.func81, Tryz.ntmps81
    go_wp2_with fail
    refine wp_loop_rounds 1 ?_
    rw [rounds_succ]
    go_wp2_with (go_at_call 92; refine HC.out.mono ?_; rintro e w1 ⟨rfl, hS⟩; have HS := jb.mk hS; clear hS)
    refine wp_loop_rounds 1 ?_
    rw [rounds_succ]
    go_wp2_with fail
    go_end0
    exact ⟨rfl, HS.out⟩
  · have HC := jb.mk (ins.calls base gb cap tl w0 c g lb P R tr eg hp l (by omega) hP 0 20 0 20 rfl rfl (by omega) (by omega) (fun p q x1 x2 x3 => hD p q x1 x2 (by omega)) w hS)
    have d1 : (20 : Int) ≤ (l.length : Int) := by omega
    by_cases e20 : l.length = 20
    · have d3 : ¬ (20 : Int) < (l.length : Int) := by omega
      have HI := jb.mk (fun l1 (hl1 : l1.length = l.length) (w : World) (hS : SoR base gb 53 tl w0 l1 w) => ins0.calls base gb cap tl w0 l1 (.func (.func g) #[] lb) (by omega) 20 l.length 20 l.length rfl rfl (by omega) (by omega) w hS)
      have HE := jb.mk e20
      clear hp hP hS hD tr e20
      go_enter Tryz.func81, Tryz.ntmps81
      go_wp2_with fail
      refine wp_loop_rounds 2 ?_
      rw [rounds_succ]
      go_wp2_with (go_at_call 92; refine HC.out.mono ?_; rintro e w1 ⟨rfl, hS⟩; obtain ⟨l1, hS1, hq1⟩ := hS; have HS := jb.mk hS1; have HQ := jb.mk hq1; clear hS1 hq1)
      rw [rounds_succ]
      have HI2 := jb.mk (by have := HI.out l1 HQ.out.1.1 _ HS.out; rw [HQ.out.1.1] at this; exact this : Calls Tryz.prog 92 #[.slice (some ⟨gb, 0, none⟩) l.length cap, .int .i64 20, .int .i64 l.length, .func (.func g) #[] lb] w1 fun e w' => e = .returned (.tuple #[]) ∧ SoR base gb 53 tl w0 l1 w')
      go_wp2_with (go_at_call 92; refine HI2.out.mono ?_; rintro e w2 ⟨rfl, hS⟩; have HS := jb.mk hS; clear hS)
      refine wp_loop_rounds 1 ?_
      rw [rounds_succ]
      go_wp2_with fail
      go_end0
      refine ⟨rfl, l1, HS.out, ?_⟩
      rw [HE.out]; exact HQ.out
    · have d3 : (20 : Int) < (l.length : Int) := by omega
      have HI := jb.mk (fun l1 (hk : Srtd R l 0 20 l1) (w : World) (hS : SoR base gb 53 tl w0 l1 w) => ins.calls base gb cap tl w0 c g lb P R tr eg hp l1 (by have := hk.1.1; omega) (fun x hx => hP x (hk.1.2.1.mem_iff.1 hx)) 20 l.length 20 l.length rfl rfl (by omega) (by have := hk.1.1; omega) (fun p q x1 x2 x3 => by rw [hk.1.2.2.1 p (.inr x1), hk.1.2.2.1 q (.inr (by omega))]; exact hD p q (by omega) x2 x3) w hS)
      have HM := jb.mk (fun l1 l2 (hk : Srtd R l 0 20 l1) (hk2 : Srtd R l1 20 l.length l2) (w : World) (hS : SoR base gb 53 tl w0 l2 w) => sym.calls base gb cap tl w0 c g lb P R tr eg hp l.length (by omega) 1000 l2 (by rw [hk2.1.1, hk.1.1]) (fun x hx => hP x (hk.1.2.1.mem_iff.1 (hk2.1.2.1.mem_iff.1 hx))) 0 20 l.length (by omega) (by omega) (by omega) (Nat.le_refl _) (SymP.Srt.out hk.2 hk2.1 (.inl (Nat.le_refl _))) hk2.2 (fun p q x1 x2 x3 x4 => by
        obtain ⟨p', y1, y2, y3⟩ := hk.1.2.2.2 p x1 x2
        obtain ⟨q', z1, z2, z3⟩ := hk2.1.2.2.2 q x3 x4
        rw [hk2.1.2.2.1 p (.inl x2), y3, z3, hk.1.2.2.1 q' (.inr z1)]
        exact hD p' q' y1 (by omega) z2) 0 20 l.length rfl rfl rfl w hS)
      clear hp hP hS hD tr
      go_enter Tryz.func81, Tryz.ntmps81
      go_wp2_with fail
      refine wp_loop_rounds 2 ?_
      rw [rounds_succ]
      go_wp2_with (go_at_call 92; refine HC.out.mono ?_; rintro e w1 ⟨rfl, hS⟩; obtain ⟨l1, hS1, hq1⟩ := hS; have HS := jb.mk hS1; have HQ := jb.mk hq1; clear hS1 hq1)
      rw [rounds_succ]
      have HI2 := jb.mk (by have := HI.out l1 HQ.out _ HS.out; rw [HQ.out.1.1] at this; exact this : Calls Tryz.prog 92 #[.slice (some ⟨gb, 0, none⟩) l.length cap, .int .i64 20, .int .i64 l.length, .func (.func g) #[] lb] w1 fun e w' => e = .returned (.tuple #[]) ∧ Lvs base gb 53 tl w0 (Srtd R l1 20 l.length) w')
      go_wp2_with (go_at_call 92; refine HI2.out.mono ?_; rintro e w2 ⟨rfl, hS⟩; obtain ⟨l2, hS2, hq2⟩ := hS; have HS2 := jb.mk hS2; have HQ2 := jb.mk hq2; clear hS2 hq2)
      refine wp_loop_rounds 2 ?_
      rw [rounds_succ]
      go_wp2_with fail
      refine wp_loop_rounds 1 ?_
      rw [rounds_succ]
      have HM2 := jb.mk (HM.out l1 l2 HQ.out HQ2.out _ HS2.out)
      go_wp2_with (go_at_call 93; refine HM2.out.mono ?_; rintro e w3 ⟨rfl, hS⟩; obtain ⟨l3, hS3, hq3⟩ := hS; have HS3 := jb.mk hS3; have HQ3 := jb.mk hq3; clear hS3 hq3)
      rw [rounds_succ]
      go_wp2_with fail
      go_end0
      refine ⟨rfl, l3, HS3.out, ?_, HQ3.out.2⟩
      exact ((HQ.out.1.wide 0 l.length (Nat.le_refl _) (by omega)).trans (HQ2.out.1.wide 0 l.length (by omega) (Nat.le_refl _))).trans HQ3.out.1
set_option maxHeartbeats 8000000 in
set_option maxRecDepth 100000 in
theorem ssf.calls (base gb cap : Nat) (tl : List Value) (w0 : World) (c : Value → Value → Int) (g : Nat) (lb : Array Value) (P : Value → Prop) (R : Value → Value → Prop) (tr : ∀ x y z, R x y → R y z → R x z) (eg : ∀ args w, (callFunc g args).run Tryz.prog w = .ok (.enter g args) w)
    (hp : ∀ W l' x y, SoR base gb 53 tl w0 l' W → P x → P y → Calls Tryz.prog g (#[x, y] ++ lb) W fun e w' => e = .returned (.int .i64 (c x y)) ∧ Below W.heap.size W w')
    (l : List Value) (hl : l.length < 40) (hl1 : 1 ≤ l.length) (hP : ∀ x ∈ l, PS P x) (hD : DecA c R l 0 l.length) (w : World) (hS : SoR base gb 53 tl w0 l w) :
    Calls Tryz.prog 66 #[.slice (some ⟨gb, 0, none⟩) l.length cap, .func (.func g) #[] lb] w fun e w' => e = .returned (.tuple #[]) ∧ Lvs base gb 53 tl w0 (Srtd R l 0 l.length) w' := by
  have HC := jb.mk (sta.calls base gb cap tl w0 c g lb P R tr eg hp l hl hl1 hP hD w hS)
  clear hp hP hS hD tr
  go_enter Tryz.func66, Tryz.ntmps66
  go_wp2_with (go_at_call 81; refine HC.out.mono ?_; rintro e w1 ⟨rfl, hS⟩; have HS := jb.mk hS; clear hS)
  go_end0
  exact ⟨rfl, HS.out⟩
set_option maxHeartbeats 8000000 in
set_option maxRecDepth 100000 in
theorem sta0.ins (cv : Value) (w : World) :
    Calls Tryz.prog 92 #[.slice none 0 0, .int .i64 0, .int .i64 0, cv] w fun e w' => e = .returned (.tuple #[]) ∧ w = w' := by
  go_enter Tryz.func92, Tryz.ntmps92
  go_wp2_with fail
  refine wp_loop_rounds 1 ?_
  rw [rounds_succ]
  go_wp2_with fail
  go_end0
  exact ⟨rfl, rfl⟩
set_option maxHeartbeats 8000000 in
set_option maxRecDepth 100000 in
theorem sta0.calls (cv : Value) (w : World) :
    Calls Tryz.prog 81 #[.slice none 0 0, .int .i64 0, cv] w fun e w' => e = .returned (.tuple #[]) ∧ w = w' := by
  go_enter Tryz.func81, Tryz.ntmps81
  go_wp2_with fail
  refine wp_loop_rounds 1 ?_
  rw [rounds_succ]
  go_wp2_with (go_at_call 92; refine (sta0.ins cv _).mono ?_; rintro e w1 ⟨rfl, rfl⟩)
  refine wp_loop_rounds 1 ?_
  rw [rounds_succ]
  go_wp2_with fail
  go_end0
  exact ⟨rfl, rfl⟩
set_option maxHeartbeats 8000000 in
set_option maxRecDepth 100000 in
theorem ssf0.calls (cv : Value) (w : World) :
    Calls Tryz.prog 66 #[.slice none 0 0, cv] w fun e w' => e = .returned (.tuple #[]) ∧ w = w' := by
  go_enter Tryz.func66, Tryz.ntmps66
  go_wp2_with (go_at_call 81; refine (sta0.calls cv _).mono ?_; rintro e w1 ⟨rfl, rfl⟩)
  go_end0
  exact ⟨rfl, rfl⟩
theorem keep4 {w0 W W' : World} {a1 a2 a3 a4 : Addr} {v1 v2 v3 v4 : Value} (h : Below w0.heap.size w0 W ∧ W.cell? a1 = some v1 ∧ W.cell? a2 = some v2 ∧ W.cell? a3 = some v3 ∧ W.cell? a4 = some v4) (hb : Below W.heap.size W W') :
    Below w0.heap.size w0 W' ∧ W'.cell? a1 = some v1 ∧ W'.cell? a2 = some v2 ∧ W'.cell? a3 = some v3 ∧ W'.cell? a4 = some v4 := by
  have kc : ∀ p v, W.cell? p = some v → W'.cell? p = some v := fun p v h => (hb.cell (World.block_lt_of_cell? W _ h)).trans h
  obtain ⟨h0, h1, h2, h3, h4⟩ := h
  exact ⟨h0.trans (hb.mono h0.size), kc _ _ h1, kc _ _ h2, kc _ _ h3, kc _ _ h4⟩

end Go.Proofs.YtoideilmkcpilaaGreatDoor.SymW
