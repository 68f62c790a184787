/- impl.ParseSnail, walked by hand. -/
import Derived.Test.YtaoejhikigljeaaGreatDoorOFnSnailsClimbx0
import Derived.Test.YtaoejhikigljeaaGreatDoorOFnSnailsClimbx1
import Derived.Test.YtaoejhikigljeaaGreatDoorOFnSnailsClimbx2
import Derived.Test.YtaoejhikigljeaaGreatDoorOFnSnailsClimbx3
import Derived.Test.YtaoejhikigljeaaGreatDoorOFnSnailsClimbx4
import Derived.Test.YtaoejhikigljeaaGreatDoorOFnSnailsClimbx5
import Derived.Test.YtaoejhikigljeaaGreatDoorOFnSnailsClimbx6
import Derived.Test.YtaoejhikigljeaaGreatDoorOFnSnailsClimbx7
import Derived.Test.YtaoejhikigljeaaGreatDoorOFnSnailsClimbx8
import Derived.Test.YtaoejhikigljeaaGreatDoorOFnSnailsClimbx9
import Derived.Test.YtaoejhikigljeaaGreatDoorTx
import Derived.RegionTactic
import Derived.ChangeAlike
namespace Go.Proofs.YtaoejhikigljeaaGreatDoor.OFnSnailsClimb
open Go.RowKit Go.Proofs.YtaoejhikigljeaaGreatDoorW.PrintWords Go.Proofs.YtaoejhikigljeaaGreatDoorW.PrintLast Go.Proofs.YtaoejhikigljeaaGreatDoorW.PrintMore
set_option linter.unusedVariables false
set_option linter.unusedSimpArgs false
open Go.Proofs.YtaoejhikigljeaaGreatDoor.Tx
theorem own_form {W : World} {base : Nat} {v : Value} {n : Nat} {xs : List Value} (h : W.ownsRow base 3 1 v n xs) : ∃ A c, v = .slice A n c := by
  obtain ⟨_, ⟨rfl, rfl⟩ | ⟨g, cap, cells, rfl, _⟩⟩ := h
  · exact ⟨none, 0, rfl⟩
  · exact ⟨_, _, rfl⟩
theorem own_two {W : World} {base : Nat} {v : Value} {p s : Int} (h : W.ownsRow base 3 1 v 2 [.int .i64 p, .int .i64 s]) :
    ∃ g cap, v = .slice (some ⟨g, 0, none⟩) 2 cap ∧ W.cell? ⟨g, 0, none⟩ = some (.int .i64 p) ∧ W.cell? ⟨g, 1, none⟩ = some (.int .i64 s) ∧ base ≤ g := by
  obtain ⟨_, ⟨_, h0⟩ | ⟨g, cap, ⟨cells⟩, rfl, hb, hh, _, _, _, ht⟩⟩ := h
  · exact absurd h0 (by decide)
  · refine ⟨g, cap, rfl, ?_, ?_, hb⟩
    · rw [blk_cell hh 0]
      have := congrArg (·[0]?) ht
      simpa [List.getElem?_take] using this
    · rw [blk_cell hh 1]
      have := congrArg (·[1]?) ht
      simpa [List.getElem?_take] using this
theorem RdPost.no' {w : World} {e : Ending} {w' : World} (h : RdPost none w e w') : e = .returned (.tuple #[.slice none 0 0, .bool false]) ∧ Below w.heap.size w w' := by
  rcases h with ⟨ns, v, h, _⟩ | ⟨_, h⟩
  · cases h
  · exact h
theorem RdPost.yes' {ns : List Int} {w : World} {e : Ending} {w' : World} (h : RdPost (some ns) w e w') : ∃ v, e = .returned (.tuple #[v, .bool true]) ∧ w'.ownsRow w.heap.size 3 1 v ns.length (ns.map (Value.int .i64)) ∧ Below w.heap.size w w' := by
  rcases h with ⟨ms, v, h, r⟩ | ⟨h, _⟩
  · obtain rfl := Option.some.inj h
    exact ⟨v, r⟩
  · cases h
/-- The result's own block, of two numbers. -/
def RB (w W : World) (a b : Int) : Prop := Below w.heap.size w W ∧ W.heap[w.heap.size]? = some (.cells #[.int .i64 a, .int .i64 b] 25 (0, 0))
theorem RB.start (w : World) : RB w (w.alloc (.cells #[.int .i64 0, .int .i64 0] 25)) 0 0 := ⟨below_alloc (Below.refl _ _) _, heap_alloc_new w _⟩
theorem RB.step {w W W' : World} {a b : Int} (h : RB w W a b) (hb : Below W.heap.size W W') : RB w W' a b := ⟨h.1.trans (hb.mono h.1.size), blk_below h.2 hb⟩
theorem RB.put {w W : World} {a b : Int} (h : RB w W a b) (x y : Int) : RB w ((W.setCell ⟨w.heap.size, 0, none⟩ (.int .i64 x)).setCell ⟨w.heap.size, 1, none⟩ (.int .i64 y)) x y :=
  ⟨(h.1.setCell (Nat.le_refl _) _).setCell (Nat.le_refl _) _, by have := blk_set (blk_set h.2 0 (.int .i64 x)) 1 (.int .i64 y); simpa using this⟩
theorem RB.cells {w W : World} {a b : Int} (h : RB w W a b) : W.cell? ⟨w.heap.size, 0, none⟩ = some (.int .i64 a) ∧ W.cell? ⟨w.heap.size, 1, none⟩ = some (.int .i64 b) ∧ W.frozen? ⟨w.heap.size, 0, none⟩ = false ∧ W.frozen? ⟨w.heap.size, 1, none⟩ = false :=
  ⟨(blk_cell h.2 0).trans rfl, (blk_cell h.2 1).trans rfl, blk_frozen h.2 0, blk_frozen h.2 1⟩
set_option maxHeartbeats 8000000 in
set_option maxRecDepth 100000 in
theorem ps.none_ (s : ByteArray) (hs : s.size ≤ 2000000) (w : World) (ht : T2 w) (hr : rdN (spl 45 s.data.toList) = none) :
    Calls Tryz.prog 20 #[.string s] w fun e w' => e = .returned (.tuple #[.agg #[.int .i64 0, .int .i64 0], .bool false]) ∧ Below w.heap.size w w' := by
  have R0 := Aside0.mk (RB.start w)
  have HRD := Aside0.mk (readNumbers.calls s 45 hs _ (ht.step R0.out.1))
  rw [hr] at HRD
  have mixed : Tryz.prog.follows .mixedOrders = true := by kernel_rfl
  have hus := Tryz.underlying25
  clear hr ht
  go_enter Tryz.func20, Tryz.ntmps20
  go_wp2_with (go_at_call 51; (with_reducible refine HRD.out.mono ?_); intro e w2 hp; obtain ⟨he, hb2⟩ := RdPost.no' hp; subst he; have R2 := Aside0.mk (R0.out.step hb2); clear hb2 hp)
  go_quiet (fail)
  have R3 := Aside0.mk (R2.out.step (pw_below_drewN (Below.refl _ _) nq))
  generalize w2.drewN nq = w3 at R3 ⊢
  obtain ⟨c0, c1, f0, f1⟩ := R3.out.cells
  go_wp2_with fail
  have R4 := Aside0.mk (R3.out.put 0 0)
  obtain ⟨d0, d1, _, _⟩ := R4.out.cells
  refine bodyPost_ret (v := .tuple #[.agg #[.int .i64 0, .int .i64 0], .bool false]) (by simp [results, Tryz.results20, go_sem, d0, d1]) rfl ⟨rfl, R4.out.1⟩
set_option maxHeartbeats 8000000 in
set_option maxRecDepth 100000 in
theorem ps.len_ (s : ByteArray) (hs : s.size ≤ 2000000) (w : World) (ht : T2 w) (ns : List Int) (hr : rdN (spl 45 s.data.toList) = some ns) (h2 : ns.length ≠ 2) :
    Calls Tryz.prog 20 #[.string s] w fun e w' => e = .returned (.tuple #[.agg #[.int .i64 0, .int .i64 0], .bool false]) ∧ Below w.heap.size w w' := by
  have R0 := Aside0.mk (RB.start w)
  have HRD := Aside0.mk (readNumbers.calls s 45 hs _ (ht.step R0.out.1))
  rw [hr] at HRD
  have mixed : Tryz.prog.follows .mixedOrders = true := by kernel_rfl
  have hus := Tryz.underlying25
  have q1 : ((ns.length : Int) == 2) = false := by simp; omega
  have q2 : ((ns.length : Int) != 2) = true := by simp; omega
  clear hr ht h2
  go_enter Tryz.func20, Tryz.ntmps20
  go_wp2_with (go_at_call 51; (with_reducible refine HRD.out.mono ?_); intro e w2 hp; obtain ⟨vn, he, ho, hb2⟩ := RdPost.yes' hp; subst he; obtain ⟨aN, cN, eN⟩ := own_form ho; subst eN; have R2 := Aside0.mk (R0.out.step hb2); clear hb2 hp ho)
  go_quiet (fail)
  have R3 := Aside0.mk (R2.out.step (pw_below_drewN (Below.refl _ _) nq))
  generalize w2.drewN nq = w3 at R3 ⊢
  obtain ⟨c0, c1, f0, f1⟩ := R3.out.cells
  go_wp2_with fail
  have R4 := Aside0.mk (R3.out.put 0 0)
  obtain ⟨d0, d1, _, _⟩ := R4.out.cells
  refine bodyPost_ret (v := .tuple #[.agg #[.int .i64 0, .int .i64 0], .bool false]) (by simp [results, Tryz.results20, go_sem, d0, d1]) rfl ⟨rfl, R4.out.1⟩
theorem RBk {w W W' : World} {a b p q : Int} {g : Nat} (h : RB w W a b ∧ W.cell? ⟨g, 0, none⟩ = some (.int .i64 p) ∧ W.cell? ⟨g, 1, none⟩ = some (.int .i64 q)) (hb : Below W.heap.size W W') : RB w W' a b ∧ W'.cell? ⟨g, 0, none⟩ = some (.int .i64 p) ∧ W'.cell? ⟨g, 1, none⟩ = some (.int .i64 q) :=
  ⟨h.1.step hb, (hb.cell (World.block_lt_of_cell? W _ h.2.1)).trans h.2.1, (hb.cell (World.block_lt_of_cell? W _ h.2.2)).trans h.2.2⟩
set_option maxHeartbeats 8000000 in
set_option maxRecDepth 100000 in
theorem ps.two (b : Bool) (s : ByteArray) (hs : s.size ≤ 2000000) (w : World) (ht : T2 w) (p q : Int) (hr : rdN (spl 45 s.data.toList) = some [p, q]) (hi : impl_IsSnail.f p q = some b) :
    Calls Tryz.prog 20 #[.string s] w fun e w' => e = .returned (.tuple #[.agg #[.int .i64 (if b then p else 0), .int .i64 (if b then q else 0)], .bool b]) ∧ Below w.heap.size w w' := by
  have R0 := Aside0.mk (RB.start w)
  have HRD := Aside0.mk (readNumbers.calls s 45 hs _ (ht.step R0.out.1))
  rw [hr] at HRD
  have HI := Aside0.mk hi
  have mixed : Tryz.prog.follows .mixedOrders = true := by kernel_rfl
  have hus := Tryz.underlying25
  clear hr ht hi
  go_enter Tryz.func20, Tryz.ntmps20
  go_wp2_with (go_at_call 51; (with_reducible refine HRD.out.mono ?_); intro e w2 hp; obtain ⟨vn, he, ho, hb2⟩ := RdPost.yes' hp; subst he; obtain ⟨gN, cN, eN, hc0, hc1, hgN⟩ := own_two ho; subst eN; have R2 := Aside0.mk (show RB w w2 0 0 ∧ w2.cell? ⟨gN, 0, none⟩ = some (.int .i64 p) ∧ w2.cell? ⟨gN, 1, none⟩ = some (.int .i64 q) from ⟨R0.out.step hb2, hc0, hc1⟩); have GN : Aside0 (w.heap.size < gN) := ⟨by have := hgN; simp at this; omega⟩; clear hb2 hp ho hgN)
  go_region_held3 (fun w' => RB w w' 0 0 ∧ w'.cell? ⟨gN, 0, none⟩ = some (.int .i64 p) ∧ w'.cell? ⟨gN, 1, none⟩ = some (.int .i64 q))
    (first | exact RBk (by first | assumption | exact R2.out) (by first | assumption | exact below_drew1 (Below.refl _ _)))
    ((go_at_call 18; (with_reducible refine (impl_IsSnail.calls p q b _ HI.out).mono ?_); rintro e w' ⟨rfl, hb'⟩))
  rename_i hH
  have R3 := Aside0.mk hH.1
  obtain ⟨c0, c1, f0, f1⟩ := R3.out.cells
  have n0 := hH.2.1
  have n1 := hH.2.2
  clear hH hb' R2 hc0 hc1 HRD R0
  cases b with
  | false =>
    go_wp2_with fail
    have R4 := Aside0.mk (R3.out.put 0 0)
    obtain ⟨d0, d1, _, _⟩ := R4.out.cells
    refine bodyPost_ret (v := .tuple #[.agg #[.int .i64 0, .int .i64 0], .bool false]) (by simp [results, Tryz.results20, go_sem, d0, d1]) rfl ⟨rfl, R4.out.1⟩
  | true =>
    go_wp2_with fail
    go_region
    have R4 := Aside0.mk ((R3.out.put p q).step (below_drew1 (Below.refl _ _)))
    obtain ⟨d0, d1, _, _⟩ := R4.out.cells
    generalize ((w'.setCell ⟨w.heap.size, 0, none⟩ (.int .i64 p)).setCell ⟨w.heap.size, 1, none⟩ (.int .i64 q)).drew = w4 at R4 d0 d1 ⊢
    go_wp2_with fail
    refine bodyPost_ret (v := .tuple #[.agg #[.int .i64 p, .int .i64 q], .bool true]) (by simp [results, Tryz.results20, go_sem, d0, d1]) rfl ⟨rfl, R4.out.1⟩
def psRes (r : Option (List Int)) : Int × Int × Bool :=
  match r with
  | some [p, q] => if impl_IsSnail.f p q = some true then (p, q, true) else (0, 0, false)
  | _ => (0, 0, false)
theorem isSnail_some (p q : Int) : ∃ b, impl_IsSnail.f p q = some b := by
  unfold impl_IsSnail.f impl_within.f
  by_cases h1 : p ≥ 1
  · rw [if_pos h1]
    simp only [Option.bind_some]
    by_cases h2 : decide (p ≤ 1000) = true
    · rw [if_pos h2]
      by_cases h3 : q ≥ 0
      · rw [if_pos h3]; exact ⟨_, rfl⟩
      · rw [if_neg h3]; exact ⟨_, rfl⟩
    · rw [if_neg h2]; exact ⟨_, rfl⟩
  · rw [if_neg h1]
    exact ⟨_, rfl⟩
theorem ps.calls (s : ByteArray) (hs : s.size ≤ 2000000) (w : World) (ht : T2 w) (u d : Int) (ok : Bool) (h : psRes (rdN (spl 45 s.data.toList)) = (u, d, ok)) :
    Calls Tryz.prog 20 #[.string s] w fun e w' => e = .returned (.tuple #[.agg #[.int .i64 u, .int .i64 d], .bool ok]) ∧ Below w.heap.size w w' := by
  cases hr : rdN (spl 45 s.data.toList) with
  | none =>
    rw [hr] at h
    simp only [psRes, Prod.mk.injEq] at h
    obtain ⟨rfl, rfl, rfl⟩ := h
    exact ps.none_ s hs w ht hr
  | some ns =>
    rw [hr] at h
    by_cases h2 : ns.length = 2
    · obtain ⟨p, q, rfl⟩ : ∃ p q, ns = [p, q] := by
        match ns, h2 with
        | [p, q], _ => exact ⟨p, q, rfl⟩
      obtain ⟨b, hb⟩ := isSnail_some p q
      have := ps.two b s hs w ht p q hr hb
      simp only [psRes, hb] at h
      cases b with
      | true =>
        simp only [if_true, Prod.mk.injEq] at h
        obtain ⟨rfl, rfl, rfl⟩ := h
        simpa using this
      | false =>
        rw [if_neg (by simp)] at h
        simp only [Prod.mk.injEq] at h
        obtain ⟨rfl, rfl, rfl⟩ := h
        simpa using this
    · have e : psRes (some ns) = (0, 0, false) := by
        match ns, h2 with
        | [], _ => rfl
        | [_], _ => rfl
        | [_, _], h => exact absurd rfl h
        | _ :: _ :: _ :: _, _ => rfl
      rw [e] at h
      simp only [Prod.mk.injEq] at h
      obtain ⟨rfl, rfl, rfl⟩ := h
      exact ps.len_ s hs w ht ns hr h2
end Go.Proofs.YtaoejhikigljeaaGreatDoor.OFnSnailsClimb
