/- The law FnWalkersMeet: contracts of functions, written by a program (after the kit's print). -/
import Derived.Test.YtoideilmkcpilaaGreatDoorOFnWalkersMeetx0
import Derived.Test.YtoideilmkcpilaaGreatDoorOFnWalkersMeetx2
import Derived.Test.YtoideilmkcpilaaGreatDoorOFnWalkersMeetx4
namespace Go.Proofs.YtoideilmkcpilaaGreatDoor.OFnWalkersMeet
open Go.RowKit Go.Proofs.YtoideilmkcpilaaGreatDoorW.PrintWords Go.Proofs.YtoideilmkcpilaaGreatDoorW.PrintLast Go.Proofs.YtoideilmkcpilaaGreatDoorW.PrintMore
attribute [local go_sem] max2_int min2_int max_two min_two max_three min_three max_four min_four   -- for this text's walks alone
set_option linter.unusedVariables false
set_option linter.unusedSimpArgs false
open List (setIfInBounds_toArray set_cons_zero set_cons_succ)

/-! ### impl_allMeetings: function 42 -/
open Go.Proofs.YtoideilmkcpilaaGreatDoor.SymW
def cmp3 (a b : Int) : Int := if a < b then -1 else if a > b then 1 else 0
theorem cmp3_is (a b : Int) : cmp_Compare_int.f a b = some (cmp3 a b) := by
 unfold cmp_Compare_int.f cmp_isNaN_int.f cmp3; simp only [bne_self_eq_false, Option.bind_some, Bool.false_eq_true, if_false]
 split
 ·rfl
 split <;> rfl
set_option maxHeartbeats 8000000 in
set_option maxRecDepth 100000 in
theorem clo.calls (g h c1 c2 : Nat) (a2 a3 b2 b3 : Int) (W : World) (x2 : W.cell? ⟨g, 2, none⟩ = some (.int .i64 a2)) (x3 : W.cell? ⟨g, 3, none⟩ = some (.int .i64 a3)) (y2 : W.cell? ⟨h, 2, none⟩ = some (.int .i64 b2)) (y3 : W.cell? ⟨h, 3, none⟩ = some (.int .i64 b3)) :
  Calls Tryz.prog 67 #[.slice (some ⟨g, 0, none⟩) 4 c1, .slice (some ⟨h, 0, none⟩) 4 c2] W fun e w' => e = .returned (.int .i64 (cmp3 (wrap64 (a2 * b3)) (wrap64 (b2 * a3)))) ∧ Below W.heap.size W w' := by
 have mixed : Tryz.prog.follows .mixedOrders = true := by kernel_rfl
 have hw : ∀ x, wrap64 x = IntKind.i64.wrap x := fun x => by rw [IntKind.wrap_i64]; unfold wrap64; omega
 rw [hw, hw]; clear hw; have HK := jb.mk (show Below W.heap.size W W ∧ W.cell? ⟨g, 2, none⟩ = some (.int .i64 a2) ∧ W.cell? ⟨g, 3, none⟩ = some (.int .i64 a3) ∧ W.cell? ⟨h, 2, none⟩ = some (.int .i64 b2) ∧ W.cell? ⟨h, 3, none⟩ = some (.int .i64 b3) from ⟨Below.refl _ _, x2, x3, y2, y3⟩); have hc3 := jb.mk (cmp3_is (IntKind.i64.wrap (a2 * b3)) (IntKind.i64.wrap (b2 * a3))); clear x2 x3 y2 y3; generalize cmp3 (IntKind.i64.wrap (a2 * b3)) (IntKind.i64.wrap (b2 * a3)) = cv at *; go_enter Tryz.func67, Tryz.ntmps67
 go_wp2
 go_region_held3 (fun w' => Below W.heap.size W w' ∧ w'.cell? ⟨g, 2, none⟩ = some (.int .i64 a2) ∧ w'.cell? ⟨g, 3, none⟩ = some (.int .i64 a3) ∧ w'.cell? ⟨h, 2, none⟩ = some (.int .i64 b2) ∧ w'.cell? ⟨h, 3, none⟩ = some (.int .i64 b3))
  (first | exact keep4 (by first | assumption | exact HK.1) (by first | assumption | exact qc (Below.refl _ _)))
  (first | (go_at_call 68; (with_reducible refine (cmp_Compare_int.calls _ _ _ _ hc3.out).mono ?_); rintro e w' ⟨rfl, hd⟩; have hb' := Drawn0.below hd))
 rename_i hH
 have HF := jb.mk hH.1; clear hH hd hb'
 go_wp2
 go_ret
 exact ⟨by first | rfl | (simp; done), HF.1⟩
/-- The cells of a row of numbers. -/
def rowC (r : List Int) : Array Value := (r.map (Value.int .i64)).toArray
/-- v is a row of rows of the call's own: row j lies in a block of its own. -/
def RRg (w0 W : World) (v : Value) (rs : List (List Int)) (gs : List Nat) : Prop :=
 Below w0.heap.size w0 W ∧ gs.length = rs.length ∧ W.ownsRow w0.heap.size 53 1 v rs.length (gs.map fun g => .slice (some ⟨g, 0, none⟩) 4 4) ∧
  (∀ j, j < rs.length → (rs.getD j []).length = 4 ∧ W.heap[gs.getD j 0]? = some (.cells (rowC (rs.getD j [])) 3 (0, 0)) ∧ w0.heap.size ≤ gs.getD j 0 ∧ v.ownBlock ≠ some (gs.getD j 0)) ∧ gs.Nodup ∧ (rs = [] → v = .slice none 0 0)
def RRw (w0 W : World) (v : Value) (rs : List (List Int)) : Prop := ∃ gs, RRg w0 W v rs gs
theorem RRw.start (w : World) : RRw w w (.slice none 0 0) [] :=
 ⟨[], Below.refl _ _, rfl, own_nil _ _ _ _, fun j hj => by simp at hj, List.nodup_nil, fun _ => rfl⟩
theorem RRw.step {w0 W W' : World} {v : Value} {rs : List (List Int)} (h : RRw w0 W v rs) (hb : Below W.heap.size W W') : RRw w0 W' v rs := by
 obtain ⟨gs, h0, h1, h2, h3, h4, h5⟩ := h; exact ⟨gs, h0.trans (hb.mono h0.size), h1, pw_own_below h2 hb, fun j hj => by obtain ⟨a, b, c, d⟩ := h3 j hj; exact ⟨a, qu b hb, c, d⟩, h4, h5⟩
theorem RRw.keep {w0 W W' : World} {v : Value} {rs : List (List Int)} {a1 a2 a3 a4 : Addr} {v1 v2 v3 v4 : Value} (h : RRw w0 W v rs ∧ W.cell? a1 = some v1 ∧ W.cell? a2 = some v2 ∧ W.cell? a3 = some v3 ∧ W.cell? a4 = some v4) (hb : Below W.heap.size W W') :
  RRw w0 W' v rs ∧ W'.cell? a1 = some v1 ∧ W'.cell? a2 = some v2 ∧ W'.cell? a3 = some v3 ∧ W'.cell? a4 = some v4 := by
 have kc : ∀ p v, W.cell? p = some v → W'.cell? p = some v := fun p v h => (hb.cell (World.block_lt_of_cell? W _ h)).trans h
 obtain ⟨h0, h1, h2, h3, h4⟩ := h; exact ⟨h0.step hb, kc _ _ h1, kc _ _ h2, kc _ _ h3, kc _ _ h4⟩
/-- Behind an append of a row that was laid last. -/
theorem RRg.push {w0 W W1 : World} {v v1 : Value} {rs : List (List Int)} {gs : List Nat} (h : RRg w0 W v rs gs) (r : List Int) (hr : r.length = 4)
  (hown : W1.ownsRow w0.heap.size 53 1 v1 (rs.length + 1) ((gs.map fun g => .slice (some ⟨g, 0, none⟩) 4 4) ++ [.slice (some ⟨W.heap.size, 0, none⟩) 4 4]))
  (hb : Below w0.heap.size w0 W1) (hg : (W.alloc (.cells (rowC r) 3)).grownBy W1 v.ownBlock) (hat : v1.ownBlock = v.ownBlock ∨ ∃ b, v1.ownBlock = some b ∧ (W.alloc (.cells (rowC r) 3)).heap.size ≤ b) : RRw w0 W1 v1 (rs ++ [r]) := by
 obtain ⟨h0, g1, g2, g3, g4, g5⟩ := h; rw [World.size_alloc] at hat; have lt : ∀ j, j < rs.length → gs.getD j 0 < W.heap.size := fun j hj => blk_lt (g3 j hj).2.1
 have hv : v.ownBlock ≠ some W.heap.size := fun e => by
  have := own_lt g2 _ e
  omega
 refine ⟨gs ++ [W.heap.size], hb, by simp [g1], by simpa using hown, fun j hj => ?_, ?_, fun e => by simp at e⟩
 ·by_cases z : j < rs.length
  ·obtain ⟨a, b, c, d⟩ := g3 j z; have e1 : (gs ++ [W.heap.size]).getD j 0 = gs.getD j 0 := by simp only [List.getD_eq_getElem?_getD]; rw [List.getElem?_append_left (by omega)]
   have e2 : (rs ++ [r]).getD j [] = rs.getD j [] := by simp only [List.getD_eq_getElem?_getD]; rw [List.getElem?_append_left z]
   rw [e1, e2]; have l := lt j z; refine ⟨a, ?_, c, ?_⟩
   ·rw [hg.block _ (by rw [World.size_alloc]; omega) (fun e => d e.symm)]; exact qe b _
   rcases hat with q | ⟨q, q1, q2⟩
   ·rw [q]; exact d
   rw [q1]; intro e; have := Option.some.inj e; omega
  have e : j = rs.length := by simp at hj; omega
  subst e; have e1 : (gs ++ [W.heap.size]).getD rs.length 0 = W.heap.size := by rw [← g1]; simp [List.getD_eq_getElem?_getD]
  have e2 : (rs ++ [r]).getD rs.length [] = r := by simp [List.getD_eq_getElem?_getD]
  rw [e1, e2]; refine ⟨hr, ?_, h0.size, ?_⟩
  ·rw [hg.block _ (by rw [World.size_alloc]; omega) (fun e => hv e.symm)]; exact heap_alloc_new W _
  rcases hat with q | ⟨q, q1, q2⟩
  ·rw [q]; exact hv
  rw [q1]; intro e; have := Option.some.inj e; omega
 rw [List.nodup_append]; refine ⟨g4, by simp, fun a ha b hb => ?_⟩
 simp at hb
 subst hb; obtain ⟨j, hj, rfl⟩ := List.mem_iff_getElem.1 ha; have := lt j (by omega)
 simp [List.getD_eq_getElem?_getD, hj] at this
 omega
/-- The same, and a box beside it. -/
def RRB (w0 W : World) (v : Value) (rs : List (List Int)) (B : Nat) (o : Obj) : Prop := RRw w0 W v rs ∧ W.heap[B]? = some o
theorem RRB.keep {w0 W W' : World} {v : Value} {rs : List (List Int)} {B : Nat} {o : Obj} {a1 a2 a3 a4 : Addr} {v1 v2 v3 v4 : Value} (h : RRB w0 W v rs B o ∧ W.cell? a1 = some v1 ∧ W.cell? a2 = some v2 ∧ W.cell? a3 = some v3 ∧ W.cell? a4 = some v4) (hb : Below W.heap.size W W') :
  RRB w0 W' v rs B o ∧ W'.cell? a1 = some v1 ∧ W'.cell? a2 = some v2 ∧ W'.cell? a3 = some v3 ∧ W'.cell? a4 = some v4 :=
 ⟨⟨h.1.1.step hb, qu h.1.2 hb⟩, (RRw.keep ⟨h.1.1, h.2⟩ hb).2⟩
def cR (W : World) (x y : Value) : Int := cmp3 (wrap64 ((rowOf W x).getD 2 0 * (rowOf W y).getD 3 0)) (wrap64 ((rowOf W y).getD 2 0 * (rowOf W x).getD 3 0))
theorem cmp3_neg (a b : Int) : cmp3 a b < 0 ↔ a < b := by unfold cmp3; split <;> (try split) <;> omega
theorem dec_rl {W : World} {x y : Value} (gx : gdR (rowOf W x)) (gy : gdR (rowOf W y)) (h : lx (rowOf W x) (rowOf W y)) : SymP.Dec (cR W) (fun a b => rl (rowOf W a) (rowOf W b)) x y := by
 have a := gd_mul gx gy; have b := gd_mul gy gx; refine ⟨fun z => ?_, fun z => ?_⟩
 ·unfold cR at z; rw [cmp3_neg, wr64 _ (by omega) (by omega), wr64 _ (by omega) (by omega)] at z; exact ⟨gy, gx, .inl z⟩
 unfold cR at z; rw [cmp3_neg, wr64 _ (by omega) (by omega), wr64 _ (by omega) (by omega)] at z; refine ⟨gx, gy, ?_⟩; unfold tq
 by_cases e : (rowOf W x).getD 2 0 * (rowOf W y).getD 3 0 < (rowOf W y).getD 2 0 * (rowOf W x).getD 3 0
 ·exact .inl e
 exact .inr ⟨by omega, h⟩
/-- The sort of a row of rows. -/
theorem am.sort (w : World) (v : Value) (W : World) (rows : List (List Int)) (hr : RRw w W v rows) (hlen : rows.length < 40) (hg : ∀ x ∈ rows, gdR x) (hx : rows.Pairwise lx) :
  Calls Tryz.prog 66 #[v, .func (.func 67) #[] #[]] W fun e w' => e = .returned (.tuple #[]) ∧ RRw w w' v (srtR rows) := by
 obtain ⟨gs, h0, h1, h2, h3, h4, h5⟩ := hr
 rcases h2.2 with ⟨rfl, hn⟩ | ⟨g, cap, cur, rfl, hg0, hcur, hn, hcap, hsz, htake⟩
 ·have e : rows = [] := List.length_eq_zero_iff.1 hn; subst e; refine (ssf0.calls _ W).mono ?_; rintro e w' ⟨rfl, rfl⟩; exact ⟨rfl, gs, h0, h1, h2, h3, h4, h5⟩
 have eg : ∀ args w, (callFunc 67 args).run Tryz.prog w = .ok (.enter 67 args) w := enters_of Tryz.func67 (by kernel_rfl) rfl; obtain ⟨l, hl⟩ : ∃ l : List Value, l = gs.map fun g => .slice (some ⟨g, 0, none⟩) 4 4 := ⟨_, rfl⟩
 obtain ⟨tl, htl⟩ : ∃ tl : List Value, tl = cur.toList.drop rows.length := ⟨_, rfl⟩; have ll : l.length = rows.length := by rw [hl]; simp [h1]
 have hcut : l ++ tl = cur.toList := by
  rw [hl, htl, ← htake, Nat.mul_one]; exact List.take_append_drop _ _
 have lat : ∀ j, j < rows.length → l.getD j undef = .slice (some ⟨gs.getD j 0, 0, none⟩) 4 4 := fun j hj => by
  rw [hl]; simp [List.getD_eq_getElem?_getD, show j < gs.length by omega]
 have rat : ∀ j, j < rows.length → rowOf W (l.getD j undef) = rows.getD j [] := fun j hj => by
  rw [lat j hj]; exact rowOf_at (h3 j hj).2.1
 have rmem : ∀ j, j < rows.length → rows.getD j [] ∈ rows := fun j hj => by simp [List.getD_eq_getElem?_getD, hj]
 have S0 : SoR w.heap.size g 53 tl W l W := ⟨hg0, Below.refl _ _, by rw [hcut]; simpa using hcur, fun _ _ _ => rfl⟩; have lmem : ∀ x ∈ l, ∃ j, j < rows.length ∧ x = l.getD j undef := fun x hx => by
  obtain ⟨j, hj, rfl⟩ := List.mem_iff_getElem.1 hx; exact ⟨j, by omega, by simp [List.getD_eq_getElem?_getD, hj]⟩
 by_cases hz : rows.length = 0
 ·exact absurd (h5 (List.length_eq_zero_iff.1 hz)) (by simp)
 have key := ssf.calls w.heap.size g cap tl W (cR W) 67 #[] (fun x => ∃ j, j < rows.length ∧ x = l.getD j undef) (fun a b => rl (rowOf W a) (rowOf W b)) (fun x y z => rl_trans _ _ _) eg
  (fun W' l' x y hS hx hy => by
   obtain ⟨i, hi, rfl⟩ := hx; obtain ⟨j, hj, rfl⟩ := hy; have ce : ∀ j, j < rows.length → W'.heap[gs.getD j 0]? = some (.cells (rowC (rows.getD j [])) 3 (0, 0)) := fun j hj =>
    (hS.2.2.2 _ (blk_lt (h3 j hj).2.1) (fun e => (h3 j hj).2.2.2 (by rw [e]; rfl))).trans (h3 j hj).2.1
   have cc : ∀ j k, j < rows.length → k < 4 → W'.cell? ⟨gs.getD j 0, k, none⟩ = some (.int .i64 ((rows.getD j []).getD k 0)) := fun j k hj hk => by
    rw [qh (ce j hj) k]; have := (h3 j hj).1; generalize rows.getD j [] = r at *
    simp [rowC, List.getD_eq_getElem?_getD, show k < r.length by omega]
   unfold cR; rw [rat i hi, rat j hj, lat i hi, lat j hj]
   exact clo.calls _ _ 4 4 _ _ _ _ W' (cc i 2 hi (by omega)) (cc i 3 hi (by omega)) (cc j 2 hj (by omega)) (cc j 3 hj (by omega)))
  l (by omega) (by omega) (fun x hx => by
   obtain ⟨j, hj, rfl⟩ := lmem x hx
   exact ⟨⟨j, hj, rfl⟩, by rw [lat j hj]; exact ⟨_, _, _, rfl⟩⟩)
  (fun p q _ hpq hq => by
   rw [ll] at hq; have := List.pairwise_iff_getElem.1 hx p q (by omega) hq hpq
   exact dec_rl (by rw [rat p (by omega)]; exact hg _ (rmem p (by omega))) (by rw [rat q hq]; exact hg _ (rmem q hq)) (by rw [rat p (by omega), rat q hq]; simpa [List.getD_eq_getElem?_getD, show p < rows.length by omega, hq] using this)) W S0
 rw [ll] at key; refine key.mono ?_; rintro e w' ⟨rfl, l', hS', hK, hSr⟩; refine ⟨rfl, ?_⟩; have ll' : l'.length = rows.length := hK.1.trans ll; have mp : l'.map (rowOf W) = srtR rows := by
  have S := srtR_spec rows hg hx; refine perm_unique _ _ (((hK.2.1.map (rowOf W)).trans (List.Perm.of_eq ?_)).trans S.1.symm) ?_ S.2
  ·apply List.ext_getElem
   ·simp [ll]
   intro j j1 j2; have := rat j j2
   simpa [List.getD_eq_getElem?_getD, j2, show j < l.length by omega] using this
  rw [List.pairwise_iff_getElem]; intro i j hi hj hij; have := hSr i j (by omega) hij (by simpa [ll'] using hj)
  simp at hi hj
  simpa [List.getD_eq_getElem?_getD, hi, hj] using this
 have lk : ∀ j, j < rows.length → ∃ k, k < rows.length ∧ l'.getD j undef = .slice (some ⟨gs.getD k 0, 0, none⟩) 4 4 ∧ (srtR rows).getD j [] = rows.getD k [] := fun j hj => by
  have m1 : l'.getD j undef ∈ l := hK.2.1.mem_iff.1 (getD_in l' j (by omega)); obtain ⟨k, hk, e⟩ := lmem _ m1; refine ⟨k, hk, by rw [e, lat k hk], ?_⟩; rw [← rat k hk, ← e, ← mp]
  simp [List.getD_eq_getElem?_getD, show j < l'.length by omega]
 have ls : (srtR rows).length = rows.length := by rw [← mp]; simp [ll']
 refine ⟨l'.map (fun x => match x with | .slice (some a) _ _ => a.block | _ => 0), h0.trans hS'.2.1, by simp [ll', ls], ⟨by simp [ll', ls], .inr ⟨g, cap, (l' ++ tl).toArray, by rw [ls], hg0, hS'.2.2.1, by omega, hcap, ?_, ?_⟩⟩, fun j hj => ?_, ?_, fun e => ?_⟩
 ·have e1 : (l ++ tl).length = cur.size := by rw [hcut]; simp
  have e2 : (l' ++ tl).length = (l ++ tl).length := by simp [ll', ll]
  simp only [List.size_toArray]; omega
 ·rw [ls, Nat.mul_one, List.take_left' ll', List.map_map]
  symm
  apply List.ext_getElem
  ·simp
  intro j j1 j2; obtain ⟨k, hk, e, _⟩ := lk j (by omega); have e' : l'[j] = .slice (some ⟨gs.getD k 0, 0, none⟩) 4 4 := by simpa [List.getD_eq_getElem?_getD, j2] using e
  simp [e']
 ·rw [ls] at hj; obtain ⟨k, hk, e, e2⟩ := lk j hj; have eb : (l'.map (fun x => match x with | .slice (some a) _ _ => a.block | _ => 0)).getD j 0 = gs.getD k 0 := by
   have e' : l'[j]'(by omega) = .slice (some ⟨gs.getD k 0, 0, none⟩) 4 4 := by simpa [List.getD_eq_getElem?_getD, show j < l'.length by omega] using e
   simp [List.getD_eq_getElem?_getD, show j < l'.length by omega, e']
  rw [eb, e2]; obtain ⟨q1, q2, q3, q4⟩ := h3 k hk; exact ⟨q1, (hS'.2.2.2 _ (blk_lt q2) (fun z => q4 (by rw [z]; rfl))).trans q2, q3, q4⟩
 ·have pm := hK.2.1.map (fun x : Value => match x with | .slice (some a) _ _ => a.block | _ => 0); have e1 : l.map (fun x : Value => match x with | .slice (some a) _ _ => a.block | _ => 0) = gs := by rw [hl, List.map_map]; simp [Function.comp_def]
  rw [e1] at pm; exact pm.nodup_iff.2 h4
 have : (srtR rows).length = 0 := by rw [e]; rfl
 omega
section
variable (mt : Nat → Nat → Int × Int × Bool)
def rowK (i k : Nat) : List Int := [(i : Int), (k : Int), (mt i k).1, (mt i k).2.1]
def rowsK (i : Nat) : Nat → Nat → List (List Int)
 | 0, _ => []
 | n + 1, k => if (mt i k).2.2 = true then rowK mt i k :: rowsK i n (k + 1) else rowsK i n (k + 1)
def rowsI (len : Nat) : Nat → Nat → List (List Int)
 | 0, _ => []
 | n + 1, i => rowsK mt i (len - (i + 1)) (i + 1) ++ rowsI len n (i + 1)
end
theorem w25_at (w : World) (A : Option Addr) (l : List S25) (hr : Kd.C k25 w A l.length l) (i : Nat) (hi : i < l.length) : ∃ ad, A = some ad ∧ ∀ W, Below w.heap.size w W → W.cell? (ad.add (i * 2)) = some (.int .i64 (l.getD i z25).f0) ∧ W.cell? ⟨(ad.add (i * 2)).block, (ad.add (i * 2)).off + 1, none⟩ = some (.int .i64 (l.getD i z25).f1) := by
 obtain ⟨ad, e0, hx0, hx1⟩ := at_T25 hr (i : Int) (by omega) (by omega); rw [show je l (i : Int) = l.getD i z25 by unfold je; simp] at hx0 hx1; simp only [Int.toNat_natCast] at hx0 hx1; refine ⟨ad, e0, fun W hW => ⟨(hW.cell (World.block_lt_of_cell? w _ hx0)).trans hx0, (hW.cell (World.block_lt_of_cell? w _ hx1)).trans hx1⟩⟩
set_option maxHeartbeats 8000000 in
set_option maxRecDepth 100000 in
theorem am.calls (mt : Nat → Nat → Int × Int × Bool) (K : Nat) (A0 : Option Addr) (c0 : Nat) (l0 : List S25) (w : World) (hr0 : Kd.C k25 w A0 l0.length l0) (hc0 : l0.length ≤ c0) (hl : l0.length ≤ 8)
  (hm : ∀ i j, i < l0.length → j < l0.length → impl_meetingTime.f K (l0.getD i z25).f0 (l0.getD i z25).f1 (l0.getD j z25).f0 (l0.getD j z25).f1 = some (mt i j)) (Q : Value → World → Prop)
  (hQ : ∀ v W, RRw w W v (rowsI mt l0.length l0.length 0) → Calls Tryz.prog 66 #[v, .func (.func 67) #[] #[]] W fun e w' => e = .returned (.tuple #[]) ∧ Q v w') :
  Calls Tryz.prog 42 #[.slice A0 l0.length c0] w fun e w' => ∃ v, e = .returned v ∧ Q v w' := by
 have HR := jb.mk hr0; have HM := jb.mk hm; have HQ := jb.mk hQ; have hu25 := Tryz.underlying25; have mixed : Tryz.prog.follows .mixedOrders = true := by kernel_rfl
 clear hr0 hm hQ; go_enter Tryz.func42, Tryz.ntmps42
 go_wp2_with fail
 go_loopg [12, 3] (l0.length) (fun gg v12 v3 wr => ∃ (i : Nat) (rs : List (List Int)), v12 = .int .i64 i ∧ i ≤ l0.length ∧ l0.length - i ≤ gg ∧ jb (RRw w wr v3 rs) ∧ jb (rs.length ≤ i * 8) ∧ jb (rs ++ rowsI mt l0.length (l0.length - i) i = rowsI mt l0.length l0.length 0))
 case atStart => exact ⟨0, [], by go_num, by omega, by omega, ⟨RRw.start w⟩, ⟨by simp⟩, ⟨rfl⟩⟩
 case round =>
  obtain ⟨i, rs, rfl, hil, hgg, R1, LN1, T1⟩ := hrel
  by_cases hlt : i < l0.length
  ·have hltz : (i : Int) < (l0.length : Int) := by omega
   obtain ⟨ad, eA, hcell⟩ := w25_at w A0 l0 HR.1 i hlt; subst eA; have hmi := HM.1 i; obtain ⟨xi, hxi⟩ : ∃ x, l0.getD i z25 = x := ⟨_, rfl⟩; rw [hxi] at hcell; simp only [hxi] at hmi; clear hxi; obtain ⟨x0, x1⟩ := xi; simp only at hcell hmi; have HMI := jb.mk (fun j hj => hmi j hlt hj); obtain ⟨c0', c1'⟩ := hcell wr R1.out.choose_spec.1; clear hcell hmi; have p_i : (0 : Int) ≤ (i : Int) := by omega
   go_wp2_with fail
   have R2 := jb.mk (R1.out.step (qb (Below.refl _ _) (.cells #[.int .i64 x0, .int .i64 x1] 25))); have BX := jb.mk (heap_alloc_new wr (.cells #[.int .i64 x0, .int .i64 x1] 25)); clear R1 c0' c1'; generalize wr.alloc (.cells #[.int .i64 x0, .int .i64 x1] 25) = W2 at R2 BX ⊢; generalize wr.heap.size = B at BX ⊢
   have TT : jb (rs ++ (rowsK mt i (l0.length - (i + 1)) (i + 1) ++ rowsI mt l0.length (l0.length - (i + 1)) (i + 1)) = rowsI mt l0.length l0.length 0) := ⟨by
    have := T1.out; rw [show l0.length - i = (l0.length - (i + 1)) + 1 by omega] at this
    simpa only [rowsI] using this⟩
   clear T1
   go_loopg [6, 3] (l0.length) (fun g2 v6 v3 wr2 => ∃ (k : Nat) (rs : List (List Int)), v6 = .int .i64 k ∧ i + 1 ≤ k ∧ k ≤ l0.length ∧ l0.length - k ≤ g2 ∧ jb (RRw w wr2 v3 rs) ∧ jb (rs.length ≤ i * 8 + (k - (i + 1))) ∧ jb (wr2.heap[B]? = some (.cells #[.int .i64 x0, .int .i64 x1] 25 (0, 0))) ∧ jb (rs ++ (rowsK mt i (l0.length - k) k ++ rowsI mt l0.length (l0.length - (i + 1)) (i + 1)) = rowsI mt l0.length l0.length 0))
   case atStart => exact ⟨i + 1, rs, by go_num, by omega, by omega, by omega, R2, ⟨by have := LN1.out; omega⟩, BX, TT⟩
   case round =>
    clear R2 BX TT LN1; obtain ⟨k, rs, rfl, hik, hkl, hg2, R3, LN3, BX, T3⟩ := hrel
    by_cases hkt : k < l0.length
    ·have hktz : (k : Int) < (l0.length : Int) := by omega
     obtain ⟨ad2, eA, hcell⟩ := w25_at w (some ad) l0 HR.1 k hkt; cases eA; have hmk := HMI.1 k hkt; obtain ⟨yk, hyk⟩ : ∃ x, l0.getD k z25 = x := ⟨_, rfl⟩; rw [hyk] at hcell hmk; clear hyk; obtain ⟨y0, y1⟩ := yk; simp only at hcell hmk; obtain ⟨d0, d1⟩ := hcell wr R3.out.choose_spec.1; clear hcell; obtain ⟨num, den, ok, hmt⟩ : ∃ num den ok, mt i k = (num, den, ok) := ⟨_, _, _, rfl⟩; rw [hmt] at hmk; have HMK := jb.mk hmk; have HMT := jb.mk hmt; have HK := jb.mk (show RRB w wr u3 rs B (.cells #[.int .i64 x0, .int .i64 x1] 25 (0, 0)) ∧ wr.cell? ⟨B, 0, none⟩ = some (.int .i64 x0) ∧ wr.cell? ⟨B, 1, none⟩ = some (.int .i64 x1) ∧ wr.cell? (ad.add (k * 2)) = some (.int .i64 y0) ∧ wr.cell? ⟨(ad.add (k * 2)).block, (ad.add (k * 2)).off + 1, none⟩ = some (.int .i64 y1) from ⟨⟨R3.out, BX.out⟩, (qh BX.out 0).trans rfl, (qh BX.out 1).trans rfl, d0, d1⟩); have p_k : (0 : Int) ≤ (k : Int) := by omega
     have r_k : IntKind.i64.wrap (k : Int) = (k : Int) := by rw [IntKind.wrap_i64]; omega
     clear hmk hmt d0 d1 R3 BX; cases ok
     ·go_wp2_with fail
      go_region_held3 (fun w' => RRB w w' u3 rs B (.cells #[.int .i64 x0, .int .i64 x1] 25 (0, 0)) ∧ w'.cell? ⟨B, 0, none⟩ = some (.int .i64 x0) ∧ w'.cell? ⟨B, 1, none⟩ = some (.int .i64 x1) ∧ w'.cell? (ad.add (k * 2)) = some (.int .i64 y0) ∧ w'.cell? ⟨(ad.add (k * 2)).block, (ad.add (k * 2)).off + 1, none⟩ = some (.int .i64 y1))
       (first | exact RRB.keep (by first | assumption | exact HK.1) (by first | assumption | exact qc (Below.refl _ _)))
       (first | (go_at_call 34; (with_reducible refine (impl_meetingTime.calls K _ _ _ _ num den false _ HMK.1).mono ?_); rintro e w' ⟨rfl, hb'⟩))
      rename_i hH
      have R4 := jb.mk hH.1.1; have BX4 := jb.mk hH.1.2
      have T4 : jb (rs ++ (rowsK mt i (l0.length - (k + 1)) (k + 1) ++ rowsI mt l0.length (l0.length - (i + 1)) (i + 1)) = rowsI mt l0.length l0.length 0) := ⟨by
       have := T3.out; rw [show l0.length - k = (l0.length - (k + 1)) + 1 by omega] at this
       simpa [rowsK, HMT.1] using this⟩
      clear hH HK hb' T3
      go_wp2_with fail
      go_roundg (l0.length - (k + 1))
      case measure => omega
      case rel => exact ⟨k + 1, rs, by go_num, by omega, by omega, by omega, R4, ⟨by have := LN3.out; omega⟩, BX4, T4⟩
     go_wp2_with fail
     go_region_held3 (fun w' => RRB w w' u3 rs B (.cells #[.int .i64 x0, .int .i64 x1] 25 (0, 0)) ∧ w'.cell? ⟨B, 0, none⟩ = some (.int .i64 x0) ∧ w'.cell? ⟨B, 1, none⟩ = some (.int .i64 x1) ∧ w'.cell? (ad.add (k * 2)) = some (.int .i64 y0) ∧ w'.cell? ⟨(ad.add (k * 2)).block, (ad.add (k * 2)).off + 1, none⟩ = some (.int .i64 y1))
      (first | exact RRB.keep (by first | assumption | exact HK.1) (by first | assumption | exact qc (Below.refl _ _)))
      (first | (go_at_call 34; (with_reducible refine (impl_meetingTime.calls K _ _ _ _ num den true _ HMK.1).mono ?_); rintro e w' ⟨rfl, hb'⟩))
     rename_i hH
     have BX4 := jb.mk hH.1.2
     have T4 : jb ((rs ++ [rowK mt i k]) ++ (rowsK mt i (l0.length - (k + 1)) (k + 1) ++ rowsI mt l0.length (l0.length - (i + 1)) (i + 1)) = rowsI mt l0.length l0.length 0) := ⟨by
      have := T3.out; rw [show l0.length - k = (l0.length - (k + 1)) + 1 by omega] at this
      simpa [rowsK, HMT.1] using this⟩
     obtain ⟨gs, hgs⟩ := hH.1.1; have G4 := jb.mk hgs; clear hH HK hb' T3 hgs; have hrk : rowK mt i k = [(i : Int), (k : Int), num, den] := by unfold rowK; rw [HMT.1]
     rw [hrk] at T4; clear hrk; have LNX : rs.length ≤ 100 := by have := LN3.out; omega
     go_wp2_with (first | ((with_reducible refine gate_builtin (b := .append) (xs := #[.tmp 36, .tmp 42]) rfl ?_); at_builtin; refine print_append_cells (w0 := w) (W := w'.alloc (.cells #[.int .i64 i, .int .i64 k, .int .i64 num, .int .i64 den] 3)) w.heap.size rfl (.tmp 36) (.tmp 42) 34 53 (.slice none 0 0) 1 24 rfl Tryz.underlying34 info53 rfl (by decide) (by omega) u3 rs.length (gs.map fun g => .slice (some ⟨g, 0, none⟩) 4 4) [.slice (some ⟨w'.heap.size, 0, none⟩) 4 4] rfl ?hx rfl ?h1 ?HO ?HB ?hb ?hl ?_; (case hx => (show Value.slice (some ⟨w'.heap.size + 1, 0, none⟩) 1 1 = _; rw [World.size_alloc])); (case h1 => (intro u hu; rw [List.mem_singleton.1 hu]; rfl)); (case HO => exact G4.out.2.2.1.alloc _); (case HB => exact qb G4.out.1 _); (case hb => (rw [World.size_alloc]; have := G4.out.1.size; omega)); (case hl => omega); intro v1 w1 ho hb hg hat; have HPU := jb.mk (show RRw w w1 v1 (rs ++ [[(i : Int), (k : Int), num, den]]) from G4.out.push [(i : Int), (k : Int), num, den] rfl ho hb hg hat); have BX5 := jb.mk (show w1.heap[B]? = some (.cells #[.int .i64 x0, .int .i64 x1] 25 (0, 0)) from (hg.block B (by rw [World.size_alloc]; have := blk_lt BX4.out; omega) (own_ne G4.out.2.2.1 BX4.out (by decide))).trans (qe BX4.out _)); clear ho hb hg hat BX4 G4))
     go_roundg (l0.length - (k + 1))
     case measure => omega
     case rel => exact ⟨k + 1, rs ++ [[(i : Int), (k : Int), num, den]], by go_num, by omega, by omega, by omega, HPU, ⟨by have := LN3.out; simp; omega⟩, BX5, T4⟩
    have hktz : ¬ (k : Int) < (l0.length : Int) := by omega
    have e : k = l0.length := by omega
    subst e; have T4 : jb (rs ++ rowsI mt l0.length (l0.length - (i + 1)) (i + 1) = rowsI mt l0.length l0.length 0) := ⟨by have := T3.out; rw [Nat.sub_self] at this; simpa only [rowsK, List.nil_append] using this⟩; clear T3
    go_wp2_with fail
    go_roundg (l0.length - (i + 1))
    case measure => omega
    case rel => exact ⟨i + 1, rs, by go_num, by omega, by omega, R3, ⟨by have := LN3.out; omega⟩, T4⟩
  have hltz : ¬ (i : Int) < (l0.length : Int) := by omega
  have e : i = l0.length := by omega
  subst e; have T4 : jb (rs = rowsI mt l0.length l0.length 0) := ⟨by have := T1.out; rw [Nat.sub_self] at this; simpa only [rowsI, List.append_nil] using this⟩; have HQ2 := jb.mk (HQ.1 _ wr (T4.out ▸ R1.out)); clear T1 R1 HQ
  go_wp2_with (go_at_call 66; (with_reducible refine HQ2.1.mono ?_); rintro e w1 ⟨rfl, hq⟩; have HF := jb.mk hq; clear hq)
  go_ret
  exact ⟨_, rfl, HF.1⟩
theorem rowsK_mem (mt : Nat → Nat → Int × Int × Bool) (i : Nat) : ∀ (n k : Nat), (∀ r ∈ rowsK mt i n k, ∃ j, k ≤ j ∧ j < k + n ∧ (mt i j).2.2 = true ∧ r = rowK mt i j) ∧ (rowsK mt i n k).Pairwise lx ∧ (rowsK mt i n k).length ≤ n := by
 intro n
 induction n with
 | zero => intro k; simp [rowsK]
 | succ n ih =>
  intro k; obtain ⟨a, b, c⟩ := ih (k + 1); simp only [rowsK]
  split
  ·rename_i ok
   refine ⟨fun r hr => ?_, ?_, by simp; omega⟩
   ·rcases List.mem_cons.1 hr with rfl | hr
    ·exact ⟨k, Nat.le_refl _, by omega, ok, rfl⟩
    obtain ⟨j, j1, j2, j3, j4⟩ := a r hr; exact ⟨j, by omega, by omega, j3, j4⟩
   rw [List.pairwise_cons]; refine ⟨fun r hr => ?_, b⟩; obtain ⟨j, j1, j2, j3, rfl⟩ := a r hr
   right; simp [rowK]; omega
  exact ⟨fun r hr => by obtain ⟨j, j1, j2, j3, j4⟩ := a r hr; exact ⟨j, by omega, by omega, j3, j4⟩, b, by omega⟩
theorem rowsI_mem (mt : Nat → Nat → Int × Int × Bool) (len : Nat) : ∀ (n i : Nat), n + i = len → (∀ r ∈ rowsI mt len n i, ∃ q j, i ≤ q ∧ q < j ∧ j < len ∧ (mt q j).2.2 = true ∧ r = rowK mt q j) ∧ (rowsI mt len n i).Pairwise lx ∧ 2 * (rowsI mt len n i).length ≤ n * (n - 1) := by
 intro n
 induction n with
 | zero => intro i h; simp [rowsI]
 | succ n ih =>
  intro i h; obtain ⟨a, b, c⟩ := ih (i + 1) (by omega); obtain ⟨a', b', c'⟩ := rowsK_mem mt i (len - (i + 1)) (i + 1); simp only [rowsI]; refine ⟨fun r hr => ?_, ?_, ?_⟩
  ·rcases List.mem_append.1 hr with hr | hr
   ·obtain ⟨j, j1, j2, j3, j4⟩ := a' r hr; exact ⟨i, j, Nat.le_refl _, by omega, by omega, j3, j4⟩
   obtain ⟨q, j, j1, j2, j3, j4, j5⟩ := a r hr; exact ⟨q, j, by omega, j2, j3, j4, j5⟩
  ·rw [List.pairwise_append]; refine ⟨b', b, fun x hx y hy => ?_⟩; obtain ⟨j, j1, j2, j3, rfl⟩ := a' x hx; obtain ⟨q, j', k1, k2, k3, k4, rfl⟩ := a y hy
   left; simp [rowK]; omega
  rw [List.length_append]; have e : (n + 1) * (n + 1 - 1) = n * (n - 1) + 2 * n := by
   cases n with
   | zero => rfl
   | succ m => simp only [Nat.add_sub_cancel, Nat.succ_mul, Nat.mul_succ]; omega
  rw [e]; omega
def KM : Nat := 100000
def mtM (l : List S25) (i j : Nat) : Int × Int × Bool := (impl_meetingTime.f KM (l.getD i z25).f0 (l.getD i z25).f1 (l.getD j z25).f0 (l.getD j z25).f1).getD (0, 0, false)
def okM (l : List S25) : Prop := ∀ i, i < l.length → ∀ j, j < l.length → (impl_meetingTime.f KM (l.getD i z25).f0 (l.getD i z25).f1 (l.getD j z25).f0 (l.getD j z25).f1).isSome = true
instance (l : List S25) : Decidable (okM l) := by unfold okM; infer_instance
def rowsM (l : List S25) : List (List Int) := rowsI (mtM l) l.length l.length 0
def impl_allMeetings.f (l0 : List S25) : Option (List (List Int)) := if l0.length ≤ 8 ∧ okM l0 ∧ ∀ r ∈ rowsM l0, gdR r then some (srtR (rowsM l0)) else none
theorem impl_allMeetings.own (A0 : Option Addr) (c0 : Nat) (l0 : List (S25)) (r : List (List Int)) (w : World) (hr0 : Kd.C k25 w A0 l0.length l0) (hc0 : l0.length ≤ c0) (h : impl_allMeetings.f l0 = some r) :
  Calls Tryz.prog 42 #[.slice A0 l0.length c0] w fun e w' => ∃ v0_ : Value, e = .returned (v0_) ∧ RRw w w' v0_ r := by
 unfold impl_allMeetings.f at h
 split at h
 ·rename_i hc
  obtain rfl := Option.some.inj h; obtain ⟨m1, m2, m3⟩ := rowsI_mem (mtM l0) l0.length l0.length 0 (by omega); have hlen : (rowsM l0).length < 40 := by
   have : l0.length * (l0.length - 1) ≤ 8 * 7 := Nat.mul_le_mul hc.1 (by omega); unfold rowsM; omega
  exact am.calls (mtM l0) KM A0 c0 l0 w hr0 hc0 hc.1 (fun i j hi hj => by
   obtain ⟨x, hx⟩ := Option.isSome_iff_exists.1 (hc.2.1 i hi j hj)
   rw [hx]; unfold mtM; rw [hx]; rfl) (fun v w' => RRw w w' v (srtR (rowsM l0)))
   (fun v W hR => am.sort w v W (rowsM l0) hR hlen hc.2.2 m2)
 cases h
theorem RRw.R {w W : World} {v : Value} {rs : List (List Int)} (h : RRw w W v rs) : Kd.R (Kd.slice 3 (Kd.int .i64)) 53 W w.heap.size (fun k_ => (w.heap.size ≤ k_)) v rs := by
 obtain ⟨gs, h0, h1, h2, h3, h4, h5⟩ := h; have hsz : (Kd.slice 3 (Kd.int .i64)).sz = 1 := rfl; have hsz1 : (Kd.int .i64).sz = 1 := rfl; refine ⟨fun k hk => own_base h2 k hk, _, h2, by simp only [List.length_map, h1, hsz, Nat.mul_one], fun j p hp => ?_⟩; have hj : j < rs.length := (List.getElem?_eq_some_iff.1 hp).1; obtain ⟨q1, q2, q3, q4⟩ := h3 j hj; have ep : rs.getD j [] = p := by simp [List.getD_eq_getElem?_getD, hp]
 rw [ep] at q1 q2; refine ⟨.slice (some ⟨gs.getD j 0, 0, none⟩) p.length 4, ?_, ?_⟩
 ·rw [hsz, Nat.mul_one, List.drop_eq_getElem_cons (by simp only [List.length_map]; omega)]; have hjg : j < gs.length := by omega
  simp only [List.take_succ_cons, List.take_zero, List.getElem_map, q1, List.getD_eq_getElem?_getD, List.getElem?_eq_getElem hjg, Option.getD_some]
 refine ⟨fun k hk => ?_, p.map (Value.int .i64), ⟨by simp [hsz1], .inr ⟨gs.getD j 0, 4, rowC p, by rw [q1], q3, q2, by omega, by unfold maxLen; omega, by simp [rowC, q1, hsz1], by simp only [rowC, q1, hsz1, Nat.mul_one, List.drop_zero]; exact List.take_of_length_le (by simp [q1])⟩⟩, ?_⟩
 ·obtain rfl : gs.getD j 0 = k := by simpa [Value.ownBlock] using hk
  exact ⟨q3, fun e => q4 e.symm⟩
 exact Kd.reps_scalar (enc := Value.int .i64) p
theorem RRw.S {w W : World} {v : Value} {rs : List (List Int)} (h : RRw w W v rs) : Kd.S (Kd.slice 3 (Kd.int .i64)) 53 W w.heap.size (fun k_ => (w.heap.size ≤ k_)) v rs := by
 obtain ⟨gs, h0, h1, h2, h3, h4, h5⟩ := h; have hsz : (Kd.slice 3 (Kd.int .i64)).sz = 1 := rfl; have hsz1 : (Kd.int .i64).sz = 1 := rfl; have inj : ∀ i j, i < gs.length → j < gs.length → gs.getD i 0 = gs.getD j 0 → i = j := fun i j hi hj e => by
  have p := List.pairwise_iff_getElem.1 h4; rw [List.getD_eq_getElem?_getD, List.getD_eq_getElem?_getD, List.getElem?_eq_getElem hi, List.getElem?_eq_getElem hj, Option.getD_some, Option.getD_some] at e
  rcases Nat.lt_trichotomy i j with q | q | q
  ·exact absurd e (p i j hi hj q)
  ·exact q
  exact absurd e.symm (p j i hj hi q)
 obtain ⟨f, hf⟩ := Kd.reps_tag (d := Kd.slice 3 (Kd.int .i64)) (w := W) (base := w.heap.size) (ok := fun k => w.heap.size ≤ k ∧ some k ≠ v.ownBlock) (xs := rs) (inner := gs.map fun g => Value.slice (some ⟨g, 0, none⟩) 4 4)
  (fun j k => j < gs.length ∧ k = gs.getD j 0) (fun i j k hi hj => inj i j hi.1 hj.1 (hi.2.symm.trans hj.2)) (fun j k hk => by
   obtain ⟨_, _, q3, q4⟩ := h3 j (by omega)
   rw [hk.2]; exact ⟨q3, fun e => q4 e.symm⟩) (by simp only [List.length_map, h1, hsz, Nat.mul_one]) (fun j p hp => by
   have hj : j < rs.length := (List.getElem?_eq_some_iff.1 hp).1; obtain ⟨q1, q2, q3, q4⟩ := h3 j hj; have ep : rs.getD j [] = p := by simp [List.getD_eq_getElem?_getD, hp]
   rw [ep] at q1 q2; have hjg : j < gs.length := by omega
   refine ⟨.slice (some ⟨gs.getD j 0, 0, none⟩) p.length 4, ?_, ?_⟩
   ·rw [hsz, Nat.mul_one, List.drop_eq_getElem_cons (by simp only [List.length_map]; omega)]; simp only [List.take_succ_cons, List.take_zero, List.getElem_map, q1, List.getD_eq_getElem?_getD, List.getElem?_eq_getElem hjg, Option.getD_some]
   refine ⟨fun k hk => ?_, p.map (Value.int .i64), ⟨by simp [hsz1], .inr ⟨gs.getD j 0, 4, rowC p, by rw [q1], q3, q2, by omega, by unfold maxLen; omega, by simp [rowC, q1, hsz1], by simp only [rowC, q1, hsz1, Nat.mul_one, List.drop_zero]; exact List.take_of_length_le (by simp [q1])⟩⟩, ?_⟩
   ·obtain rfl : gs.getD j 0 = k := by simpa [Value.ownBlock] using hk
    exact ⟨hjg, rfl⟩
   exact Kd.reps_scalar (enc := Value.int .i64) p)
 exact ⟨f, fun k hk => own_base h2 k hk, gs.map fun g => Value.slice (some ⟨g, 0, none⟩) 4 4, by rw [List.length_zipIdx]; exact h2, hf⟩
theorem impl_allMeetings.calls (A0 : Option Addr) (c0 : Nat) (l0 : List (S25)) (r : List (List Int)) (w : World) (hr0 : Kd.C k25 w A0 l0.length l0) (hc0 : l0.length ≤ c0) (h : impl_allMeetings.f l0 = some r) :
  Calls Tryz.prog 42 #[.slice A0 l0.length c0] w fun e w' => ∃ v0_ : Value, e = .returned (v0_) ∧ Kd.S (Kd.slice 3 (Kd.int .i64)) 53 w' w.heap.size (fun k_ => (w.heap.size ≤ k_)) v0_ r ∧ Below w.heap.size w w' :=
 (impl_allMeetings.own A0 c0 l0 r w hr0 hc0 h).mono fun e w' ⟨v, he, hR⟩ => ⟨v, he, hR.S, hR.choose_spec.1⟩

/-! ### impl_AllMeetings: function 14 -/
theorem RRw.lower {w w5 W : World} {v : Value} {rs : List (List Int)} (hb : Below w.heap.size w w5) (h : RRw w5 W v rs) : RRw w W v rs := by
 obtain ⟨gs, h0, h1, h2, h3, h4, h5⟩ := h; refine ⟨gs, hb.trans (h0.mono hb.size), h1, ?_, fun j hj => by obtain ⟨a, b, c, d⟩ := h3 j hj; exact ⟨a, b, Nat.le_trans hb.size c, d⟩, h4, h5⟩; obtain ⟨l, q⟩ := h2; refine ⟨l, q.imp id fun ⟨g, cap, cells, e, hg, r⟩ => ⟨g, cap, cells, e, Nat.le_trans hb.size hg, r⟩⟩
def impl_AllMeetings.f (l0 : List (S25)) : Option ((List (List Int)) × Bool) := (impl_AreWalkers.f l0).bind fun t207 => (if t207 = true then ((impl_allMeetings.f l0).bind fun t208 => (some (t208, true))) else (some (([] : List (List Int)), false)))
set_option maxHeartbeats 8000000 in
set_option maxRecDepth 100000 in
theorem impl_AllMeetings.own (A0 : Option Addr) (c0 : Nat) (l0 : List (S25)) (r1 : List (List Int)) (r2 : Bool) (w : World) (hr0 : Kd.C k25 w A0 l0.length l0) (hc0 : l0.length ≤ c0) (h : impl_AllMeetings.f l0 = some (r1, r2)) :
  Calls Tryz.prog 14 #[.slice A0 l0.length c0] w fun e w' => ∃ v0_ : Value, e = .returned (.tuple #[v0_, .bool r2]) ∧ RRw w w' v0_ r1 := by
 have HR0 := jb.mk hr0; have HC0 := jb.mk hc0; clear hr0 hc0; have HB := jb.mk (Below.refl w.heap.size w); have H : ((impl_AreWalkers.f l0).bind fun t207 => (if t207 = true then ((impl_allMeetings.f l0).bind fun t208 => (some (t208, true))) else (some (([] : List (List Int)), false)))) = some (r1, r2) := h; clear h; replace H := Option.bind_eq_some_iff.mp H; obtain ⟨t207, A20, H⟩ := H
 try dsimp only at H
 have A2 := jb.mk A20; clear A20
 by_cases c3 : t207 = true
 ·subst c3; rw [if_pos rfl] at H; replace H := Option.bind_eq_some_iff.mp H; obtain ⟨t208, A40, H⟩ := H
  try dsimp only at H
  have A4 := jb.mk A40; clear A40; simp only [Option.some.injEq, Prod.mk.injEq] at H; obtain ⟨rfl, rfl⟩ := H; go_enter Tryz.func14, Tryz.ntmps14
  go_wp2_with (first | ((with_reducible refine qp (f := 31) rfl ?_); refine qy (some 5) rfl rfl Tryz.func31 (by kernel_rfl) rfl #[.slice A0 l0.length c0] rfl (by (try simp only [List.map_toArray, List.map_cons, List.map_nil]); first | done | rfl | (simp only [List.length_drop, List.length_take]; rfl)) ?_; (with_reducible refine (impl_AreWalkers.calls _ _ l0 true _ ?side1 ?side2 A2.1).mono ?_); (case side1 => repeat (first | exact HR0.1 | (with_reducible refine Kd.C_alloc ?_ _) | (with_reducible refine Kd.C_drewN ?_ _) | (with_reducible refine Kd.C_drew ?_))); (case side2 => exact HC0.1); rintro e w5 ⟨rfl, hb⟩; refine ⟨_, rfl, ?_⟩; have n0_ := jb.mk (qk (by repeat (first | (with_reducible first | exact HB.1 | apply qb | apply qa | apply qc) | exact HB.1)) hb); clear HB; have HB := n0_; clear n0_; (try clear hb); (try clear hb2); (try clear hk); (try clear hi)) | ((with_reducible refine qp (f := 42) rfl ?_); refine qy (some 8) rfl rfl Tryz.func42 (by kernel_rfl) rfl #[.slice A0 l0.length c0] rfl (by (try simp only [List.map_toArray, List.map_cons, List.map_nil]); first | done | rfl | (simp only [List.length_drop, List.length_take]; rfl)) ?_; (with_reducible refine (impl_allMeetings.own _ _ l0 t208 _ ?side1 ?side2 A4.1).mono ?_); (case side1 => repeat (first | exact (Kd.C_below HR0.1 HB.1) | (with_reducible refine Kd.C_alloc ?_ _) | (with_reducible refine Kd.C_drewN ?_ _) | (with_reducible refine Kd.C_drew ?_))); (case side2 => exact HC0.1); rintro e w6 ⟨v209, rfl, ho0⟩; refine ⟨_, rfl, ?_⟩; have n0_ := jb.mk (RRw.lower HB.1 ho0); clear HB; have HO210 := n0_; clear n0_ ho0))
  go_ret2
  exact ⟨_, rfl, HO210.1⟩
 replace c3 := Bool.eq_false_iff.mpr c3; subst c3; rw [if_neg (show ¬ (false = true) by decide)] at H; simp only [Option.some.injEq, Prod.mk.injEq] at H; obtain ⟨rfl, rfl⟩ := H; go_enter Tryz.func14, Tryz.ntmps14
 go_wp2_with (first | ((with_reducible refine qp (f := 31) rfl ?_); refine qy (some 5) rfl rfl Tryz.func31 (by kernel_rfl) rfl #[.slice A0 l0.length c0] rfl (by (try simp only [List.map_toArray, List.map_cons, List.map_nil]); first | done | rfl | (simp only [List.length_drop, List.length_take]; rfl)) ?_; (with_reducible refine (impl_AreWalkers.calls _ _ l0 false _ ?side1 ?side2 A2.1).mono ?_); (case side1 => repeat (first | exact HR0.1 | (with_reducible refine Kd.C_alloc ?_ _) | (with_reducible refine Kd.C_drewN ?_ _) | (with_reducible refine Kd.C_drew ?_))); (case side2 => exact HC0.1); rintro e w7 ⟨rfl, hb⟩; refine ⟨_, rfl, ?_⟩; have n0_ := jb.mk (qk (by repeat (first | (with_reducible first | exact HB.1 | apply qb | apply qa | apply qc) | exact HB.1)) hb); clear HB; have HB := n0_; clear n0_; (try clear hb); (try clear hb2); (try clear hk); (try clear hi)))
 go_ret2
 exact ⟨_, rfl, (RRw.start w).step HB.1⟩

/-! ### spec_meAll: function 43 -/
def spec_meAll.l0 : Nat → List (S25) → Int → Int → Option (Bool)
 | 0, _, _, _ => none
 | k + 1, x9, x10, x11 => if x11 < x10 then (if 0 ≤ x11 then (if x11 < (x9.length : Int) then ((spec_meGood.f ((je x9 x11).f0) ((je x9 x11).f1)).bind fun t250 => (if t250 = true then (spec_meAll.l0 k x9 x10 (wrap64 (x11 + 1))) else (some false))) else (none)) else (none)) else (some true)
def spec_meAll.f (k : Nat) (l0 : List (S25)) : Option (Bool) := (spec_l1In.f (l0.length : Int) 1 8).bind fun t247 => (if t247 = true then (spec_meAll.l0 k l0 (l0.length : Int) 0) else (some false))
set_option maxHeartbeats 8000000 in
set_option maxRecDepth 100000 in
theorem spec_meAll.calls (k : Nat) (A0 : Option Addr) (c0 : Nat) (l0 : List (S25)) (r : Bool) (w : World) (hr0 : Kd.C k25 w A0 l0.length l0) (hc0 : l0.length ≤ c0) (h : spec_meAll.f k l0 = some r) :
  Calls Tryz.prog 43 #[.slice A0 l0.length c0] w fun e w' => e = .returned (.bool r) ∧ Below w.heap.size w w' := by
 have hu25 := Tryz.underlying25; have HR0 := jb.mk hr0; have HC0 := jb.mk hc0; clear hr0 hc0; have HB := jb.mk (Below.refl w.heap.size w); have H : ((spec_l1In.f (l0.length : Int) 1 8).bind fun t247 => (if t247 = true then (spec_meAll.l0 k l0 (l0.length : Int) 0) else (some false))) = some r := h; clear h; replace H := Option.bind_eq_some_iff.mp H; obtain ⟨t247, A20, H⟩ := H
 try dsimp only at H
 have A2 := jb.mk A20; clear A20
 by_cases c3 : t247 = true
 ·subst c3; rw [if_pos rfl] at H; have H' := jb.mk H; clear H; go_enter Tryz.func43, Tryz.ntmps43
  go_wp2_with (first | ((with_reducible refine qp (f := 63) rfl ?_); refine qy (some 7) rfl rfl Tryz.func63 (by kernel_rfl) rfl #[.int .i64 (l0.length : Int), .int .i64 1, .int .i64 8] rfl (by (try simp only [List.map_toArray, List.map_cons, List.map_nil]); first | done | rfl | (simp only [List.length_drop, List.length_take]; rfl)) ?_; (with_reducible refine (spec_l1In.calls (l0.length : Int) 1 8 true _ A2.1).mono ?_); rintro e w' ⟨rfl, ⟨nd, rfl⟩⟩; refine ⟨_, rfl, ?_⟩))
  go_loopg [11] k (fun kq v11 w' => ∃ (x11_1 : Int), v11 = .int .i64 x11_1 ∧ jb (spec_meAll.l0 kq l0 (l0.length : Int) x11_1 = some r) ∧ jb (kq ≤ k) ∧ jb (Below w.heap.size w w'))
  case atStart => exact ⟨(0), (by first | rfl | (simp; done) | (simp [*]; done)), H', ⟨Nat.le_refl _⟩, ⟨by repeat (first | (with_reducible first | exact HB.1 | apply qb | apply qa | apply qc) | exact HB.1)⟩⟩
  case round =>
   clear H'; (try clear p2); (try clear c3); obtain ⟨x11_1, rfl, HA, HK1, HB⟩ := hrel; cases gk with
   | zero => exact absurd HA.1 (by simp [spec_meAll.l0])
   | succ k1 =>
    have H := HA.1; clear HA; simp only [spec_meAll.l0] at H
    by_cases c4 : x11_1 < (l0.length : Int)
    ·rw [if_pos c4] at H; have c4b0 : decide (x11_1 < (l0.length : Int)) = true := decide_eq_true c4; clear c4
     by_cases c5 : 0 ≤ x11_1
     ·rw [if_pos c5] at H; have c5b0 : decide (0 ≤ x11_1) = true := decide_eq_true c5; clear c5
      by_cases c6 : x11_1 < (l0.length : Int)
      ·rw [if_pos c6] at H; have c6b0 : decide (x11_1 < (l0.length : Int)) = true := decide_eq_true c6; clear c6; replace H := Option.bind_eq_some_iff.mp H; obtain ⟨t250, A70, H⟩ := H
       try dsimp only at H
       have A7 := jb.mk A70; clear A70
       by_cases c8 : t250 = true
       ·subst c8; rw [if_pos rfl] at H; have H' := jb.mk H; clear H; have p248 : 0 ≤ (x11_1 : Int) := of_decide_eq_true (by first | (with_reducible assumption) | assumption); have q248 : x11_1 < (l0.length : Int) := of_decide_eq_true (by first | (with_reducible assumption) | assumption); obtain ⟨ad248, e248, hx248_0, hx248_1⟩ := at_T25 HR0.1 x11_1 p248 q248; cases e248; replace hx248_0 := (HB.1.cell (World.block_lt_of_cell? w _ hx248_0)).trans hx248_0; replace hx248_1 := (HB.1.cell (World.block_lt_of_cell? w _ hx248_1)).trans hx248_1; replace p248 := eq_true p248; replace q248 := eq_true q248
        go_wp2_with (first | ((with_reducible refine qv (N := 4) rfl ?_); refine qw ?hg (N := 4) ?hd (cs := #[.int .i64 0, .int .i64 0]) (t := 25) ?hr ?_; (case hd => rfl); (case hg => rfl); (case hr => first | (go_simp; done) | (go_simp; rfl)); intro gb249 hg w9 hbox hb; have n0_ := jb.mk (qk (by repeat (first | (with_reducible first | exact HB.1 | apply qb | apply qa | apply qc) | exact HB.1)) hb); have n1_ := jb.mk (hbox); have n2_ := jb.mk ((by rw [hg]; exact (ql (by repeat (first | (with_reducible first | exact HB.1 | apply qb | apply qa | apply qc) | exact HB.1))) : w.heap.size ≤ gb249)); have n3_ := jb.mk ((by rw [hg]; exact (ql (by repeat (first | (with_reducible first | exact HB.1 | apply qb | apply qa | apply qc) | exact HB.1))) : w.heap.size ≤ gb249)); clear HB; have HB := n0_; have BK249 := n1_; have GW249 := n2_; have GE249 := n3_; clear n0_ n1_ n2_ n3_; clear hb hbox hg; have hcz10_0 : w9.cell? ⟨gb249, 0, none⟩ = some (.int .i64 0) := (qh BK249.1 0).trans rfl; have hcz10_1 : w9.cell? ⟨gb249, 1, none⟩ = some (.int .i64 0) := (qh BK249.1 1).trans rfl; have hfz10_0 := qg BK249.1 0; have hfz10_1 := qg BK249.1 1) | ((with_reducible refine qp (f := 35) rfl ?_); refine qy (some 16) rfl rfl Tryz.func35 (by kernel_rfl) rfl #[.agg #[.int .i64 ((je l0 x11_1).f0), .int .i64 ((je l0 x11_1).f1)]] rfl (by (try simp only [List.map_toArray, List.map_cons, List.map_nil]); first | done | rfl | (simp only [List.length_drop, List.length_take]; rfl)) ?_; (with_reducible refine (spec_meGood.calls ((je l0 x11_1).f0) ((je l0 x11_1).f1) true _ A7.1).mono ?_); rintro e w11 ⟨rfl, hb⟩; refine ⟨_, rfl, ?_⟩; have n0_ := jb.mk (qu (g := gb249) (o := .cells #[.int .i64 ((je l0 x11_1).f0), .int .i64 ((je l0 x11_1).f1)] 25 (0, 0)) (by (with_reducible repeat (first | refine qf ?_ _ | refine qi ?_ | refine qe ?_ _)); refine blk_put (cs := #[.int .i64 ((je l0 x11_1).f0), .int .i64 0]) ?_ 1 _ rfl; (with_reducible repeat (first | refine qf ?_ _ | refine qi ?_ | refine qe ?_ _)); refine blk_put (cs := #[.int .i64 0, .int .i64 0]) ?_ 0 _ rfl; (with_reducible repeat (first | refine qf ?_ _ | refine qi ?_ | refine qe ?_ _)); exact BK249.1) hb); have n1_ := jb.mk (qk (by repeat (first | (with_reducible first | exact HB.1 | apply qb | apply qa | apply qc | refine qd ?_ GE249.out) | exact HB.1)) hb); clear BK249; clear HB; have BK249 := n0_; have HB := n1_; clear n0_ n1_; (try clear hb); (try clear hb2); (try clear hk); (try clear hi)))
        go_roundg k1
        case measure => have := HK1.1; omega
        case rel => exact ⟨(wrap64 (x11_1 + 1)), (by first | rfl | (simp; done) | (simp [*]; done)), H', ⟨by have := HK1.1; omega⟩, ⟨by repeat (first | (with_reducible first | exact HB.1 | apply qb | apply qa | apply qc | refine qd ?_ GE249.out) | exact HB.1)⟩⟩
       replace c8 := Bool.eq_false_iff.mpr c8; subst c8; rw [if_neg (show ¬ (false = true) by decide)] at H; obtain rfl := Option.some.inj H; have p248 : 0 ≤ (x11_1 : Int) := of_decide_eq_true (by first | (with_reducible assumption) | assumption); have q248 : x11_1 < (l0.length : Int) := of_decide_eq_true (by first | (with_reducible assumption) | assumption); obtain ⟨ad248, e248, hx248_0, hx248_1⟩ := at_T25 HR0.1 x11_1 p248 q248; cases e248; replace hx248_0 := (HB.1.cell (World.block_lt_of_cell? w _ hx248_0)).trans hx248_0; replace hx248_1 := (HB.1.cell (World.block_lt_of_cell? w _ hx248_1)).trans hx248_1; replace p248 := eq_true p248; replace q248 := eq_true q248
       go_wp2_with (first | ((with_reducible refine qv (N := 4) rfl ?_); refine qw ?hg (N := 4) ?hd (cs := #[.int .i64 0, .int .i64 0]) (t := 25) ?hr ?_; (case hd => rfl); (case hg => rfl); (case hr => first | (go_simp; done) | (go_simp; rfl)); intro gb249 hg w12 hbox hb; have n0_ := jb.mk (qk (by repeat (first | (with_reducible first | exact HB.1 | apply qb | apply qa | apply qc) | exact HB.1)) hb); have n1_ := jb.mk (hbox); have n2_ := jb.mk ((by rw [hg]; exact (ql (by repeat (first | (with_reducible first | exact HB.1 | apply qb | apply qa | apply qc) | exact HB.1))) : w.heap.size ≤ gb249)); have n3_ := jb.mk ((by rw [hg]; exact (ql (by repeat (first | (with_reducible first | exact HB.1 | apply qb | apply qa | apply qc) | exact HB.1))) : w.heap.size ≤ gb249)); clear HB; have HB := n0_; have BK249 := n1_; have GW249 := n2_; have GE249 := n3_; clear n0_ n1_ n2_ n3_; clear hb hbox hg; have hcz13_0 : w12.cell? ⟨gb249, 0, none⟩ = some (.int .i64 0) := (qh BK249.1 0).trans rfl; have hcz13_1 : w12.cell? ⟨gb249, 1, none⟩ = some (.int .i64 0) := (qh BK249.1 1).trans rfl; have hfz13_0 := qg BK249.1 0; have hfz13_1 := qg BK249.1 1) | ((with_reducible refine qp (f := 35) rfl ?_); refine qy (some 16) rfl rfl Tryz.func35 (by kernel_rfl) rfl #[.agg #[.int .i64 ((je l0 x11_1).f0), .int .i64 ((je l0 x11_1).f1)]] rfl (by (try simp only [List.map_toArray, List.map_cons, List.map_nil]); first | done | rfl | (simp only [List.length_drop, List.length_take]; rfl)) ?_; (with_reducible refine (spec_meGood.calls ((je l0 x11_1).f0) ((je l0 x11_1).f1) false _ A7.1).mono ?_); rintro e w14 ⟨rfl, hb⟩; refine ⟨_, rfl, ?_⟩; have n0_ := jb.mk (qu (g := gb249) (o := .cells #[.int .i64 ((je l0 x11_1).f0), .int .i64 ((je l0 x11_1).f1)] 25 (0, 0)) (by (with_reducible repeat (first | refine qf ?_ _ | refine qi ?_ | refine qe ?_ _)); refine blk_put (cs := #[.int .i64 ((je l0 x11_1).f0), .int .i64 0]) ?_ 1 _ rfl; (with_reducible repeat (first | refine qf ?_ _ | refine qi ?_ | refine qe ?_ _)); refine blk_put (cs := #[.int .i64 0, .int .i64 0]) ?_ 0 _ rfl; (with_reducible repeat (first | refine qf ?_ _ | refine qi ?_ | refine qe ?_ _)); exact BK249.1) hb); have n1_ := jb.mk (qk (by repeat (first | (with_reducible first | exact HB.1 | apply qb | apply qa | apply qc | refine qd ?_ GE249.out) | exact HB.1)) hb); clear BK249; clear HB; have BK249 := n0_; have HB := n1_; clear n0_ n1_; (try clear hb); (try clear hb2); (try clear hk); (try clear hi)))
       go_ret
       exact ⟨by first | rfl | (simp [qr, qq] <;> rfl) | (simp [*, qr, qq] <;> rfl), by repeat (first | (with_reducible first | exact HB.1 | apply qb | apply qa | apply qc | refine qd ?_ GE249.out) | exact HB.1)⟩
      rw [if_neg c6] at H; exact absurd H (by simp)
     rw [if_neg c5] at H; exact absurd H (by simp)
    rw [if_neg c4] at H; have c4b0 : decide (x11_1 < (l0.length : Int)) = false := decide_eq_false c4; clear c4; obtain rfl := Option.some.inj H
    go_wp2
    go_ret
    exact ⟨by first | rfl | (simp [qr, qq] <;> rfl) | (simp [*, qr, qq] <;> rfl), by repeat (first | (with_reducible first | exact HB.1 | apply qb | apply qa | apply qc) | exact HB.1)⟩
 replace c3 := Bool.eq_false_iff.mpr c3; subst c3; rw [if_neg (show ¬ (false = true) by decide)] at H; obtain rfl := Option.some.inj H; go_enter Tryz.func43, Tryz.ntmps43
 go_wp2_with (first | ((with_reducible refine qp (f := 63) rfl ?_); refine qy (some 7) rfl rfl Tryz.func63 (by kernel_rfl) rfl #[.int .i64 (l0.length : Int), .int .i64 1, .int .i64 8] rfl (by (try simp only [List.map_toArray, List.map_cons, List.map_nil]); first | done | rfl | (simp only [List.length_drop, List.length_take]; rfl)) ?_; (with_reducible refine (spec_l1In.calls (l0.length : Int) 1 8 false _ A2.1).mono ?_); rintro e w' ⟨rfl, ⟨nd, rfl⟩⟩; refine ⟨_, rfl, ?_⟩))
 go_ret
 exact ⟨by first | rfl | (simp [qr, qq] <;> rfl) | (simp [*, qr, qq] <;> rfl), by repeat (first | (with_reducible first | exact HB.1 | apply qb | apply qa | apply qc) | exact HB.1)⟩

end Go.Proofs.YtoideilmkcpilaaGreatDoor.OFnWalkersMeet
