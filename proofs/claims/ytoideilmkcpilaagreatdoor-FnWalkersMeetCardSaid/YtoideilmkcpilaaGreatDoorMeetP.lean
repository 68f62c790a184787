/- The plain order of meetings. -/
import Derived.Test.YtoideilmkcpilaaGreatDoorSymS
namespace Go.Proofs.YtoideilmkcpilaaGreatDoor.SymW
open Go.RowKit Go.Proofs.YtoideilmkcpilaaGreatDoorW.PrintWords Go.Proofs.YtoideilmkcpilaaGreatDoorW.PrintLast Go.Proofs.YtoideilmkcpilaaGreatDoorW.PrintMore
set_option linter.unusedVariables false
set_option linter.unusedSimpArgs false
/-! ### the plain order of meetings -/
def tq (a b : List Int) : Prop := a.getD 2 0 * b.getD 3 0 < b.getD 2 0 * a.getD 3 0
def lx (a b : List Int) : Prop := a.getD 0 0 < b.getD 0 0 ∨ (a.getD 0 0 = b.getD 0 0 ∧ a.getD 1 0 < b.getD 1 0)
def gdR (a : List Int) : Prop := a.length = 4 ∧ 0 ≤ a.getD 2 0 ∧ a.getD 2 0 ≤ 100000 ∧ 1 ≤ a.getD 3 0 ∧ a.getD 3 0 ≤ 100000
instance (a : List Int) : Decidable (gdR a) := by unfold gdR; infer_instance
def rl (a b : List Int) : Prop := gdR a ∧ gdR b ∧ (tq a b ∨ (a.getD 2 0 * b.getD 3 0 = b.getD 2 0 * a.getD 3 0 ∧ lx a b))
theorem frac_lt {a2 a3 b2 b3 c2 c3 : Int} (ha : 1 ≤ a3) (hb : 1 ≤ b3) (hc : 1 ≤ c3) (h1 : a2 * b3 ≤ b2 * a3) (h2 : b2 * c3 ≤ c2 * b3) :
    a2 * c3 ≤ c2 * a3 ∧ ((a2 * b3 < b2 * a3 ∨ b2 * c3 < c2 * b3) → a2 * c3 < c2 * a3) := by
  have k1 := Int.mul_le_mul_of_nonneg_right h1 (show 0 ≤ c3 by omega)
  have k2 := Int.mul_le_mul_of_nonneg_right h2 (show 0 ≤ a3 by omega)
  have e1 : a2 * b3 * c3 = b3 * (a2 * c3) := by rw [Int.mul_comm a2 b3, Int.mul_assoc]
  have e2 : b2 * a3 * c3 = b2 * c3 * a3 := by rw [Int.mul_assoc, Int.mul_comm a3 c3, ← Int.mul_assoc]
  have e3 : c2 * b3 * a3 = b3 * (c2 * a3) := by rw [Int.mul_comm c2 b3, Int.mul_assoc]
  refine ⟨?_, fun h => ?_⟩
  · have : b3 * (a2 * c3) ≤ b3 * (c2 * a3) := by omega
    exact Int.le_of_mul_le_mul_left this (by omega)
  · have : b3 * (a2 * c3) < b3 * (c2 * a3) := by
      rcases h with h | h
      · have := Int.mul_lt_mul_of_pos_right h (show 0 < c3 by omega); omega
      · have := Int.mul_lt_mul_of_pos_right h (show 0 < a3 by omega); omega
    exact Int.lt_of_mul_lt_mul_left this (by omega)
theorem rl_trans (a b c : List Int) (h : rl a b) (h' : rl b c) : rl a c := by
  obtain ⟨ga, gb, h⟩ := h
  obtain ⟨_, gc, h'⟩ := h'
  refine ⟨ga, gc, ?_⟩
  unfold tq lx at *
  have F := frac_lt (a2 := a.getD 2 0) (a3 := a.getD 3 0) (b2 := b.getD 2 0) (b3 := b.getD 3 0) (c2 := c.getD 2 0) (c3 := c.getD 3 0) ga.2.2.2.1 gb.2.2.2.1 gc.2.2.2.1
  have F' := frac_lt (a2 := c.getD 2 0) (a3 := c.getD 3 0) (b2 := b.getD 2 0) (b3 := b.getD 3 0) (c2 := a.getD 2 0) (c3 := a.getD 3 0) gc.2.2.2.1 gb.2.2.2.1 ga.2.2.2.1
  rcases h with h | ⟨h, l⟩ <;> rcases h' with h' | ⟨h', l'⟩
  · exact .inl ((F (by omega) (by omega)).2 (.inl h))
  · exact .inl ((F (by omega) (by omega)).2 (.inl h))
  · exact .inl ((F (by omega) (by omega)).2 (.inr h'))
  · refine .inr ⟨?_, by omega⟩
    have x := (F (by omega) (by omega)).1
    have y := (F' (by omega) (by omega)).1
    omega
theorem rl_asymm (a b : List Int) (h : rl a b) (h' : rl b a) : False := by
  obtain ⟨ga, gb, h⟩ := h
  obtain ⟨_, _, h'⟩ := h'
  unfold tq lx at *
  omega
theorem perm_unique : ∀ (l1 l2 : List (List Int)), l1.Perm l2 → l1.Pairwise rl → l2.Pairwise rl → l1 = l2 := by
  intro l1
  induction l1 with
  | nil => intro l2 h _ _; exact (List.Perm.nil_eq h)
  | cons a t ih =>
    intro l2 h p1 p2
    match l2, h, p2 with
    | [], h, _ => exact absurd h.length_eq (by simp)
    | b :: s, h, p2 =>
      have e : a = b := by
        have ha : a ∈ b :: s := h.mem_iff.1 (by simp)
        have hb : b ∈ a :: t := h.mem_iff.2 (by simp)
        rcases List.mem_cons.1 ha with e | ha
        · exact e
        · rcases List.mem_cons.1 hb with e | hb
          · exact e.symm
          · exact (rl_asymm a b ((List.pairwise_cons.1 p1).1 b hb) ((List.pairwise_cons.1 p2).1 a ha)).elim
      subst e
      rw [ih s (List.Perm.cons_inv h) (List.pairwise_cons.1 p1).2 (List.pairwise_cons.1 p2).2]
/-- How spec.AllMeetings looks for a place. -/
def tlt (x y : List Int) : Prop := wrap64 (rd x 2 * rd y 3) < wrap64 (rd y 2 * rd x 3)
instance (x y : List Int) : Decidable (tlt x y) := by unfold tlt; infer_instance
def posR (x : List Int) (o : List (List Int)) : Nat → Nat
  | 0 => 0
  | j + 1 => if tlt x (o.getD j []) then posR x o j else j + 1
def insR (x : List Int) (o : List (List Int)) : List (List Int) := o.take (posR x o o.length) ++ x :: o.drop (posR x o o.length)
def srtR (rs : List (List Int)) : List (List Int) := rs.foldl (fun o x => insR x o) []
theorem rd2 (x : List Int) : rd x 2 = x.getD 2 0 := by simp [rd]
theorem rd3 (x : List Int) : rd x 3 = x.getD 3 0 := by simp [rd]
theorem wr64 (n : Int) (h1 : -9223372036854775808 ≤ n) (h2 : n ≤ 9223372036854775807) : wrap64 n = n := by unfold wrap64; omega
theorem gd_mul {a b : List Int} (ga : gdR a) (gb : gdR b) : 0 ≤ a.getD 2 0 * b.getD 3 0 ∧ a.getD 2 0 * b.getD 3 0 ≤ 10000000000 := by
  unfold gdR at ga gb
  refine ⟨Int.mul_nonneg ga.2.1 (by omega), ?_⟩
  have := Int.mul_le_mul ga.2.2.1 gb.2.2.2.2 (by omega) (by omega)
  omega
theorem tlt_iff {x y : List Int} (gx : gdR x) (gy : gdR y) : tlt x y ↔ tq x y := by
  unfold tlt tq
  rw [rd2, rd2, rd3, rd3]
  have a := gd_mul gx gy
  have b := gd_mul gy gx
  rw [wr64 _ (by omega) (by omega), wr64 _ (by omega) (by omega)]
theorem posR_le (x : List Int) (o : List (List Int)) : ∀ j, posR x o j ≤ j := by
  intro j; induction j with
  | zero => simp [posR]
  | succ j ih => simp only [posR]; split <;> omega
theorem posR_lo (x : List Int) (o : List (List Int)) : ∀ j, 0 < posR x o j → ¬ tlt x (o.getD (posR x o j - 1) []) := by
  intro j; induction j with
  | zero => simp [posR]
  | succ j ih =>
    simp only [posR]; split
    · exact ih
    · rename_i h; intro _; rw [Nat.add_sub_cancel]; exact h
theorem posR_hi (x : List Int) (o : List (List Int)) : ∀ j, posR x o j < j → tlt x (o.getD (posR x o j) []) := by
  intro j; induction j with
  | zero => simp [posR]
  | succ j ih =>
    simp only [posR]; split
    · rename_i h
      intro _
      by_cases z : posR x o j < j
      · exact ih z
      · have := posR_le x o j
        rw [show posR x o j = j by omega]; exact h
    · intro h; omega
theorem insR_perm (x : List Int) (o : List (List Int)) : (insR x o).Perm (x :: o) := by
  unfold insR
  have := List.perm_middle (a := x) (l₁ := o.take (posR x o o.length)) (l₂ := o.drop (posR x o o.length))
  rwa [List.take_append_drop] at this
theorem pw_get {l : List (List Int)} (h : l.Pairwise rl) (i j : Nat) (hij : i < j) (hj : j < l.length) : rl (l.getD i []) (l.getD j []) := by
  have := List.pairwise_iff_getElem.1 h i j (by omega) hj hij
  simpa [List.getD_eq_getElem?_getD, show i < l.length by omega, hj] using this
theorem insR_sorted (x : List Int) (o : List (List Int)) (gx : gdR x) (go_ : ∀ y ∈ o, gdR y ∧ lx y x) (h : o.Pairwise rl) : (insR x o).Pairwise rl := by
  have le := posR_le x o o.length
  have lo := posR_lo x o o.length
  have hi := posR_hi x o o.length
  unfold insR
  generalize posR x o o.length = p at *
  have mem : ∀ j, j < o.length → o.getD j [] ∈ o := fun j hj => by simp [List.getD_eq_getElem?_getD, hj]
  have L : ∀ j, j < p → rl (o.getD j []) x := fun j hj => by
    have n := lo (by omega)
    have g := go_ _ (mem (p - 1) (by omega))
    rw [tlt_iff gx g.1] at n
    have k : rl (o.getD (p - 1) []) x := ⟨g.1, gx, by unfold tq at n ⊢; have := g.2; by_cases z : (o.getD (p - 1) []).getD 2 0 * x.getD 3 0 < x.getD 2 0 * (o.getD (p - 1) []).getD 3 0; exact .inl z; exact .inr ⟨by omega, this⟩⟩
    by_cases z : j = p - 1
    · rw [z]; exact k
    · exact rl_trans _ _ _ (pw_get h j (p - 1) (by omega) (by omega)) k
  have H : ∀ j, p ≤ j → j < o.length → rl x (o.getD j []) := fun j hj hl => by
    have n := hi (by omega)
    have g := go_ _ (mem p (by omega))
    rw [tlt_iff gx g.1] at n
    have k : rl x (o.getD p []) := ⟨gx, g.1, .inl n⟩
    by_cases z : j = p
    · rw [z]; exact k
    · exact rl_trans _ _ _ k (pw_get h p j (by omega) hl)
  rw [List.pairwise_append]
  refine ⟨h.sublist (List.take_sublist _ _), ?_, fun a ha b hb => ?_⟩
  · rw [List.pairwise_cons]
    refine ⟨fun b hb => ?_, h.sublist (List.drop_sublist _ _)⟩
    obtain ⟨j, hj, rfl⟩ := List.mem_iff_getElem.1 hb
    simp at hj
    have := H (p + j) (by omega) (by omega)
    simpa [List.getD_eq_getElem?_getD, show p + j < o.length by omega] using this
  · obtain ⟨i, hi', rfl⟩ := List.mem_iff_getElem.1 ha
    simp at hi'
    have l1 := L i (by omega)
    have e1 : o.getD i [] = o[i]'(by omega) := by simp [List.getD_eq_getElem?_getD, show i < o.length by omega]
    rw [e1] at l1
    rw [List.getElem_take]
    rcases List.mem_cons.1 hb with rfl | hb
    · exact l1
    · obtain ⟨j, hj, rfl⟩ := List.mem_iff_getElem.1 hb
      simp at hj
      have := H (p + j) (by omega) (by omega)
      have e2 : o.getD (p + j) [] = o[p + j]'(by omega) := by simp [List.getD_eq_getElem?_getD, show p + j < o.length by omega]
      rw [e2] at this
      rw [List.getElem_drop]
      exact rl_trans _ _ _ l1 this
theorem srt_go (rs : List (List Int)) : ∀ (o : List (List Int)), o.Pairwise rl → (∀ x ∈ rs, gdR x) → (∀ y ∈ o, gdR y) → rs.Pairwise lx → (∀ y ∈ o, ∀ x ∈ rs, lx y x) →
    (rs.foldl (fun o x => insR x o) o).Perm (rs ++ o) ∧ (rs.foldl (fun o x => insR x o) o).Pairwise rl := by
  induction rs with
  | nil => intro o h _ _ _ _; exact ⟨List.Perm.refl _, h⟩
  | cons x t ih =>
    intro o h gr gy pl ol
    simp only [List.foldl_cons]
    have p := insR_perm x o
    have pl' := List.pairwise_cons.1 pl
    have mem : ∀ y ∈ insR x o, y = x ∨ y ∈ o := fun y hy => by simpa using p.mem_iff.1 hy
    obtain ⟨a, b⟩ := ih (insR x o) (insR_sorted x o (gr x (by simp)) (fun y hy => ⟨gy y hy, ol y hy x (by simp)⟩) h) (fun y hy => gr y (by simp [hy])) (fun y hy => by
      rcases mem y hy with rfl | z
      · exact gr _ (by simp)
      · exact gy y z) pl'.2 (fun y hy z hz => by
      rcases mem y hy with rfl | q
      · exact pl'.1 z hz
      · exact ol y q z (by simp [hz]))
    refine ⟨a.trans ?_, b⟩
    exact (List.Perm.append_left t p).trans (by simp)
theorem srtR_spec (rs : List (List Int)) (g : ∀ x ∈ rs, gdR x) (h : rs.Pairwise lx) : (srtR rs).Perm rs ∧ (srtR rs).Pairwise rl := by
  have := srt_go rs [] List.Pairwise.nil g (by simp) h (by simp)
  unfold srtR
  simpa using this

/-! ### what the sort hands back -/
/-- The number that a value holds. -/
def intV : Value → Int
  | .int _ n => n
  | _ => 0
/-- The row to which a value leads. -/
def rowOf (W : World) : Value → List Int
  | .slice (some a) _ _ => match W.heap[a.block]? with
    | some (.cells cs _ _) => cs.toList.map intV
    | _ => []
  | _ => []
theorem map_intV (l : List Int) : (l.map (Value.int .i64)).map intV = l := by
  induction l with
  | nil => rfl
  | cons x xs ih => simp only [List.map_cons, intV, ih]
theorem rowOf_at {W : World} {g a c : Nat} {r : List Int} (h : W.heap[g]? = some (.cells ((r.map (Value.int .i64)).toArray) 3 (0, 0))) : rowOf W (.slice (some ⟨g, 0, none⟩) a c) = r := by
  simp only [rowOf, h]
  exact map_intV r
end Go.Proofs.YtoideilmkcpilaaGreatDoor.SymW
