import Derived.Test.YtfaccdafldbjcaaGreatRpPub
namespace Go.Proofs.YtfaccdafldbjcaaGreat.OFnWalkersRound
open Go.RowKit Go.Proofs.YtfaccdafldbjcaaGreatW.PrintWords Go.Proofs.YtfaccdafldbjcaaGreatW.PrintLast Go.Proofs.YtfaccdafldbjcaaGreatW.PrintMore
/- Rows of two in blocks of their own. -/
/-- v is a row of rows of two, row j in a block of its own. -/
def RS (base : Nat) (W : World) (v : Value) (rs : List (List Int)) (gs : List Nat) : Prop :=
  gs.length = rs.length ∧ W.ownsRow base 35 1 v rs.length (gs.map fun g => .slice (some ⟨g, 0, none⟩) 2 2) ∧
    (∀ j, j < rs.length → (rs.getD j []).length = 2 ∧ W.heap[gs.getD j 0]? = some (.cells (rowC (rs.getD j [])) 3 (0, 0)) ∧ base ≤ gs.getD j 0 ∧ v.ownBlock ≠ some (gs.getD j 0)) ∧ gs.Nodup
theorem RRx.RS {w W : World} {v : Value} {rs : List (List Int)} (h : RRx w W v rs) : ∃ gs, RS w.heap.size W v rs gs := by
  obtain ⟨gs, h0, h1, h2, h3, h4, h5⟩ := h
  exact ⟨gs, h1, h2, h3, h4⟩
theorem RS.below {base : Nat} {W W' : World} {v : Value} {rs : List (List Int)} {gs : List Nat} (h : RS base W v rs gs) (hb : Below W.heap.size W W') : RS base W' v rs gs := by
  obtain ⟨h1, h2, h3, h4⟩ := h
  exact ⟨h1, pw_own_below h2 hb, fun j hj => by obtain ⟨a, b, c, d⟩ := h3 j hj; exact ⟨a, qu b hb, c, d⟩, h4⟩
theorem RS.R {base : Nat} {W : World} {v : Value} {rs : List (List Int)} {gs : List Nat} (h : RS base W v rs gs) : Kd.R (Kd.slice 3 (Kd.int .i64)) 35 W base (fun k_ => base ≤ k_) v rs := by
  obtain ⟨h1, h2, h3, h4⟩ := h
  have hsz : (Kd.slice 3 (Kd.int .i64)).sz = 1 := rfl
  have hsz1 : (Kd.int .i64).sz = 1 := rfl
  refine ⟨fun k hk => own_base h2 k hk, _, h2, by simp only [List.length_map, h1, hsz, Nat.mul_one], fun j p hp => ?_⟩
  have hj : j < rs.length := (List.getElem?_eq_some_iff.1 hp).1
  obtain ⟨q1, q2, q3, q4⟩ := h3 j hj
  have ep : rs.getD j [] = p := by simp [List.getD_eq_getElem?_getD, hp]
  rw [ep] at q1 q2
  refine ⟨.slice (some ⟨gs.getD j 0, 0, none⟩) p.length 2, ?_, ?_⟩
  · rw [hsz, Nat.mul_one, List.drop_eq_getElem_cons (by simp only [List.length_map]; omega)]
    have hjg : j < gs.length := by omega
    simp only [List.take_succ_cons, List.take_zero, List.getElem_map, q1, List.getD_eq_getElem?_getD, List.getElem?_eq_getElem hjg, Option.getD_some]
  · refine ⟨fun k hk => ?_, p.map (Value.int .i64), ⟨by simp [hsz1], .inr ⟨gs.getD j 0, 2, rowC p, by rw [q1], q3, q2, by omega, by unfold maxLen; omega, by simp [rowC, q1, hsz1], by simp only [rowC, q1, hsz1, Nat.mul_one]; exact List.take_of_length_le (by simp [q1])⟩⟩, ?_⟩
    · obtain rfl : gs.getD j 0 = k := by simpa [Value.ownBlock] using hk
      exact ⟨q3, fun e => q4 e.symm⟩
    · exact Kd.reps_scalar (enc := Value.int .i64) p
theorem RS.cell {base : Nat} {W : World} {A : Option Addr} {n c : Nat} {rs : List (List Int)} {gs : List Nat} (h : RS base W (.slice A n c) rs gs) (i : Nat) (hi : i < rs.length) : ∃ ad, A = some ad ∧ W.cell? (ad.add i) = some (.slice (some ⟨gs.getD i 0, 0, none⟩) 2 2) := by
  have hR := (Kd.R_reads' h.R).2.2
  obtain ⟨ad, cc, e, _, hK, hc0⟩ := Kd.C_get hR ([] : List Int) (i : Int) (by omega) (by omega)
  obtain ⟨h1, ⟨hl, q⟩, h3, h4⟩ := h
  rcases q with ⟨e', z⟩ | ⟨g, cap, cur, e', hb, hh, hn, hm, hs, ht⟩
  · omega
  · simp only [Value.slice.injEq] at e'
    obtain ⟨rfl, _, _⟩ := e'
    refine ⟨_, rfl, ?_⟩
    have hc : cur.toList[i]? = some (.slice (some ⟨gs.getD i 0, 0, none⟩) 2 2) := by
      have hjg : i < gs.length := by omega
      have : (cur.toList.take (rs.length * 1))[i]? = some (.slice (some ⟨gs.getD i 0, 0, none⟩) 2 2) := by
        rw [ht, List.getElem?_map, List.getElem?_eq_getElem hjg, List.getD_eq_getElem?_getD, List.getElem?_eq_getElem hjg]; rfl
      rwa [List.getElem?_take_of_lt (by omega)] at this
    have := qh hh i
    have ea : (⟨g, 0, none⟩ : Addr).add i = ⟨g, i, none⟩ := by unfold Addr.add; by_cases z : i = 0 <;> simp [z]
    rw [ea, this, ← hc, Array.getElem?_toList]
/-- The two numbers of row i. -/
theorem RS.row {base : Nat} {W : World} {A : Option Addr} {n c : Nat} {rs : List (List Int)} {gs : List Nat} (h : RS base W (.slice A n c) rs gs) (i : Nat) (hi : i < rs.length) : ∃ ad g, A = some ad ∧
    ∀ W', Below W.heap.size W W' → W'.cell? (ad.add i) = some (.slice (some ⟨g, 0, none⟩) 2 2) ∧ W'.cell? ⟨g, 0, none⟩ = some (.int .i64 ((rs.getD i []).getD 0 0)) ∧ W'.cell? ⟨g, 1, none⟩ = some (.int .i64 ((rs.getD i []).getD 1 0)) := by
  obtain ⟨ad, rfl, _⟩ := h.cell i hi
  refine ⟨ad, gs.getD i 0, rfl, fun W' hb => ?_⟩
  have h' := h.below hb
  obtain ⟨ad', e, hc⟩ := h'.cell i hi
  cases e
  have r9 := h'.2.2.1 i hi
  have cc : ∀ k, k < 2 → W'.cell? ⟨gs.getD i 0, k, none⟩ = some (.int .i64 ((rs.getD i []).getD k 0)) := fun k hk => by
    rw [qh r9.2.1 k]
    have := r9.1
    clear r9; generalize rs.getD i [] = r at *
    simp [rowC, List.getD_eq_getElem?_getD, show k < r.length by omega]
  exact ⟨hc, cc 0 (by omega), cc 1 (by omega)⟩
end Go.Proofs.YtfaccdafldbjcaaGreat.OFnWalkersRound
