/- The functions that draw: each answers. -/
import Derived.Test.YtbbglmoenjdloaaOFnSnailsRacex12
import Derived.Laws.BitsAllLaws
import Derived.WalkKit
namespace Go.Proofs.Ytbbglmoenjdloaa.DrawP
open Go.RowKit Go.Proofs.Ytbbglmoenjdloaa.OFnSnailsRace Go.Proofs.YtbbglmoenjdloaaW.PrintWords Go.Proofs.YtbbglmoenjdloaaW.PrintLast Go.Proofs.YtbbglmoenjdloaaW.PrintMore
set_option linter.unusedVariables false
set_option linter.unusedSimpArgs false
/-! ### the cursor's functions answer -/
theorem dw64 (n : Int) (h1 : -9223372036854775808 ≤ n) (h2 : n ≤ 9223372036854775807) : wrap64 n = n := by unfold wrap64; omega
def Code8 (l : List Int) : Prop := (∀ x ∈ l, 0 ≤ x ∧ x ≤ 255) ∧ (l.length : Int) ≤ 10000000
theorem and255 (x : Int) : 0 ≤ wrap64 (Go.bits .and .u64 (IntKind.u64.wrap x / 1099511627776) 255) ∧ wrap64 (Go.bits .and .u64 (IntKind.u64.wrap x / 1099511627776) 255) ≤ 255 := by
  have hx : 0 ≤ IntKind.u64.wrap x ∧ IntKind.u64.wrap x < 18446744073709551616 := by rw [IntKind.wrap_u64]; omega
  have hd : 0 ≤ IntKind.u64.wrap x / 1099511627776 ∧ IntKind.u64.wrap x / 1099511627776 < 18446744073709551616 := by omega
  rw [u64_and _ _ hd.1 hd.2 (by omega) (by omega)]
  have : (IntKind.u64.wrap x / 1099511627776).toNat &&& (255 : Int).toNat ≤ 255 := Nat.and_le_right
  rw [dw64 _ (by omega) (by omega)]
  omega
theorem rd_code {l : List Int} (h : Code8 l) (i : Int) (h0 : 0 ≤ i) (h1 : i < (l.length : Int)) : 0 ≤ rd l i ∧ rd l i ≤ 255 := by
  have e : rd l i = l[i.toNat]'(by omega) := by unfold rd; rw [List.getD_eq_getElem?_getD, List.getElem?_eq_getElem (by omega)]; rfl
  rw [e]
  exact h.1 _ (List.getElem_mem _)
theorem t_next (l : List Int) (h : Code8 l) (at_ sd : Int) (h0 : 0 ≤ at_) (h1 : at_ ≤ 1000000) : ∃ r a s, spec_l1Cur_next.f l at_ sd = some (r, a, s) ∧ 0 ≤ r ∧ r ≤ 255 ∧ a = at_ + 1 := by
  unfold spec_l1Cur_next.f
  have hl := h.2
  rw [dw64 (at_ + 1) (by omega) (by omega)]
  by_cases c : at_ < (l.length : Int)
  · have b := rd_code h at_ h0 c
    rw [if_pos c, if_pos h0, if_pos (by omega)]
    exact ⟨_, _, _, rfl, by rw [dw64 _ (by omega) (by omega)]; omega, by rw [dw64 _ (by omega) (by omega)]; omega, rfl⟩
  · rw [if_neg c]
    by_cases c2 : at_ + 1 ≤ (l.length : Int)
    · rw [if_pos c2]; exact ⟨_, _, _, rfl, by omega, by omega, rfl⟩
    · rw [if_neg c2]; exact ⟨_, _, _, rfl, (and255 _).1, (and255 _).2, rfl⟩
theorem t_pick (l : List Int) (h : Code8 l) (at_ sd n : Int) (h0 : 0 ≤ at_) (h1 : at_ ≤ 900000) (hn : n ≤ 1000000000) : ∃ r a s, spec_l1Cur_pick.f l at_ sd n = some (r, a, s) ∧ 0 ≤ r ∧ r < max n 1 ∧ at_ ≤ a ∧ a ≤ at_ + 2 := by
  unfold spec_l1Cur_pick.f
  by_cases c : n ≤ 1
  · rw [if_pos c]; exact ⟨_, _, _, rfl, by omega, by omega, by omega, by omega⟩
  · rw [if_neg c]
    obtain ⟨r, a, s, e, e1, e2, e3⟩ := t_next l h at_ sd h0 (by omega)
    rw [e]; simp only [Option.bind_some]
    by_cases c2 : n > 200
    · rw [if_pos c2]
      obtain ⟨r', a', s', e', e1', e2', e3'⟩ := t_next l h a s (by omega) (by omega)
      rw [e']; simp only [Option.bind_some]; rw [if_neg (by omega), dw64 (r * 256) (by omega) (by omega), dw64 _ (by omega) (by omega), Int.tmod_eq_emod_of_nonneg (by omega)]
      exact ⟨_, _, _, rfl, Int.emod_nonneg _ (by omega), by have := Int.emod_lt_of_pos (r * 256 + r') (show 0 < n by omega); omega, by omega, by omega⟩
    · rw [if_neg c2, if_neg (by omega), Int.tmod_eq_emod_of_nonneg (by omega)]
      exact ⟨_, _, _, rfl, Int.emod_nonneg _ (by omega), by have := Int.emod_lt_of_pos r (show 0 < n by omega); omega, by omega, by omega⟩
theorem t_one (l : List Int) (h : Code8 l) (at_ sd n : Int) (h0 : 0 ≤ at_) (h1 : at_ ≤ 900000) (hn : n ≤ 1000000000) : ∃ r a s, spec_l1Cur_one.f l at_ sd n = some (r, a, s) ∧ at_ ≤ a ∧ a ≤ at_ + 2 := by
  obtain ⟨r, a, s, e, _, _, e1, e2⟩ := t_pick l h at_ sd n h0 h1 hn
  unfold spec_l1Cur_one.f; rw [e]; simp only [Option.bind_some]
  exact ⟨_, _, _, rfl, e1, e2⟩
theorem t_among (l : List Int) (h : Code8 l) (at_ sd : Int) (xs : List Int) (hx : 1 ≤ xs.length) (hx2 : xs.length ≤ 1000) (h0 : 0 ≤ at_) (h1 : at_ ≤ 900000) : ∃ r a s, spec_l1Cur_among.f l at_ sd xs = some (r, a, s) ∧ r ∈ xs ∧ at_ ≤ a ∧ a ≤ at_ + 2 := by
  obtain ⟨r, a, s, e, e0, e3, e1, e2⟩ := t_pick l h at_ sd xs.length h0 h1 (by omega)
  unfold spec_l1Cur_among.f; rw [e]; simp only [Option.bind_some]
  have hr : r < (xs.length : Int) := by omega
  rw [if_pos e0, if_pos hr]
  exact ⟨_, _, _, rfl, by unfold rd; rw [List.getD_eq_getElem?_getD, List.getElem?_eq_getElem (by omega)]; exact List.getElem_mem _, e1, e2⟩
theorem t_sureSnail (l : List Int) (h : Code8 l) (at_ sd : Int) (h0 : 0 ≤ at_) (h1 : at_ ≤ 800000) : ∃ u d a s, spec_l1Cur_sureSnail.f l at_ sd = some (u, d, a, s) ∧ at_ ≤ a ∧ a ≤ at_ + 6 := by
  unfold spec_l1Cur_sureSnail.f
  obtain ⟨r, a, s, e, e1, e2⟩ := t_one l h at_ sd 6 h0 (by omega) (by omega)
  rw [e]; simp only [Option.bind_some]
  by_cases c : r = true
  · rw [if_pos c]
    obtain ⟨r', a', s', e', _, e1', e2'⟩ := t_among l h a s [1, 7, 1000] (by simp) (by simp) (by omega) (by omega)
    rw [e']; simp only [Option.bind_some]
    obtain ⟨r2, a2, s2, e3, _, e4, e5⟩ := t_among l h a' s' [0, 1, 7, 999, 1000] (by simp) (by simp) (by omega) (by omega)
    rw [e3]; simp only [Option.bind_some]; exact ⟨_, _, _, _, rfl, by omega, by omega⟩
  · rw [if_neg c]
    obtain ⟨r', a', s', e', p1, p2, e1', e2'⟩ := t_pick l h a s 9 (by omega) (by omega) (by omega)
    rw [e']; simp only [Option.bind_some]
    rw [dw64 (1 + r') (by omega) (by omega), dw64 _ (by omega) (by omega)]
    obtain ⟨r2, a2, s2, e3, _, _, e4, e5⟩ := t_pick l h a' s' (1 + r' + 1) (by omega) (by omega) (by omega)
    rw [e3]; simp only [Option.bind_some]; exact ⟨_, _, _, _, rfl, by omega, by omega⟩
theorem t_snail (l : List Int) (h : Code8 l) (at_ sd : Int) (h0 : 0 ≤ at_) (h1 : at_ ≤ 700000) : ∃ u d a s, spec_l1Cur_snail.f l at_ sd = some (u, d, a, s) ∧ at_ ≤ a ∧ a ≤ at_ + 8 := by
  unfold spec_l1Cur_snail.f
  obtain ⟨r, a, s, e, e1, e2⟩ := t_one l h at_ sd 14 h0 (by omega) (by omega)
  rw [e]; simp only [Option.bind_some]
  by_cases c : r = true
  · rw [if_pos c]
    obtain ⟨r', a', s', e', _, e1', e2'⟩ := t_among l h a s [(-1), 0, 1, 1001, 4611686018427387904] (by simp) (by simp) (by omega) (by omega)
    rw [e']; simp only [Option.bind_some]
    obtain ⟨r2, a2, s2, e3, _, e4, e5⟩ := t_among l h a' s' [(-1), 0, 1, 1001, (-9223372036854775808)] (by simp) (by simp) (by omega) (by omega)
    rw [e3]; simp only [Option.bind_some]; exact ⟨_, _, _, _, rfl, by omega, by omega⟩
  · rw [if_neg c]
    obtain ⟨u, d, a', s', e', e1', e2'⟩ := t_sureSnail l h a s (by omega) (by omega)
    rw [e']; simp only [Option.bind_some]; exact ⟨_, _, _, _, rfl, by omega, by omega⟩
theorem t_wall (l : List Int) (h : Code8 l) (at_ sd : Int) (h0 : 0 ≤ at_) (h1 : at_ ≤ 700000) : ∃ u a s, spec_l1Cur_wall.f l at_ sd = some (u, a, s) ∧ at_ ≤ a ∧ a ≤ at_ + 4 := by
  unfold spec_l1Cur_wall.f
  obtain ⟨r, a, s, e, e1, e2⟩ := t_one l h at_ sd 8 h0 (by omega) (by omega)
  rw [e]; simp only [Option.bind_some]
  by_cases c : r = true
  · rw [if_pos c]
    obtain ⟨r', a', s', e', _, e1', e2'⟩ := t_among l h a s [(-1), 0, 1, 1000, 1000000, 1000001, 4611686018427387904] (by simp) (by simp) (by omega) (by omega)
    rw [e']; simp only [Option.bind_some]; exact ⟨_, _, _, rfl, by omega, by omega⟩
  · rw [if_neg c]
    obtain ⟨r', a', s', e', p1, p2, e1', e2'⟩ := t_pick l h a s 60 (by omega) (by omega) (by omega)
    rw [e']; simp only [Option.bind_some]; exact ⟨_, _, _, rfl, by omega, by omega⟩
theorem t_day (l : List Int) (h : Code8 l) (at_ sd : Int) (h0 : 0 ≤ at_) (h1 : at_ ≤ 700000) : ∃ u a s, spec_l1Cur_day.f l at_ sd = some (u, a, s) ∧ at_ ≤ a ∧ a ≤ at_ + 4 := by
  unfold spec_l1Cur_day.f
  obtain ⟨r, a, s, e, e1, e2⟩ := t_one l h at_ sd 8 h0 (by omega) (by omega)
  rw [e]; simp only [Option.bind_some]
  by_cases c : r = true
  · rw [if_pos c]
    obtain ⟨r', a', s', e', _, e1', e2'⟩ := t_among l h a s [(-1), 0, 1, 1000, 1001, 1000000, 1000001, 4611686018427387904] (by simp) (by simp) (by omega) (by omega)
    rw [e']; simp only [Option.bind_some]; exact ⟨_, _, _, rfl, by omega, by omega⟩
  · rw [if_neg c]
    obtain ⟨r', a', s', e', p1, p2, e1', e2'⟩ := t_pick l h a s 30 (by omega) (by omega) (by omega)
    rw [e']; simp only [Option.bind_some]; exact ⟨_, _, _, rfl, by omega, by omega⟩
theorem t_slips_l1 (l : List Int) (h : Code8 l) : ∀ (n k : Nat) (x3 : List Int) (at_ sd : Int), 13 ≤ x3.length + n → x3.length ≤ 1000 → n < k → 0 ≤ at_ → at_ + 4 * n ≤ 600000 → ∃ r a s, spec_l1Cur_slips.l1 k x3 l at_ sd = some (r, a, s) ∧ at_ ≤ a ∧ a ≤ at_ + 4 * n + 2 := by
  intro n
  induction n with
  | zero =>
    intro k x3 at_ sd h1 h2 hk h3 h4
    obtain ⟨k, rfl⟩ : ∃ m, k = m + 1 := ⟨k - 1, by omega⟩
    simp only [spec_l1Cur_slips.l1]
    obtain ⟨r, a, s, e, e0, e3, e1, e2⟩ := t_pick l h at_ sd 2 h3 (by omega) (by omega)
    rw [e]; simp only [Option.bind_some]
    rw [dw64 _ (by omega) (by omega), if_neg (by omega)]
    exact ⟨_, _, _, rfl, by omega, by omega⟩
  | succ n ih =>
    intro k x3 at_ sd h1 h2 hk h3 h4
    obtain ⟨k, rfl⟩ : ∃ m, k = m + 1 := ⟨k - 1, by omega⟩
    simp only [spec_l1Cur_slips.l1]
    obtain ⟨r, a, s, e, e0, e3, e1, e2⟩ := t_pick l h at_ sd 2 h3 (by omega) (by omega)
    rw [e]; simp only [Option.bind_some]
    rw [dw64 _ (by omega) (by omega)]
    by_cases c : (x3.length : Int) < 12 + r
    · rw [if_pos c]
      obtain ⟨r', a', s', e', e0', e3', e1', e2'⟩ := t_pick l h a s 4 (by omega) (by omega) (by omega)
      rw [e']; simp only [Option.bind_some]
      rw [if_pos (by omega)]
      obtain ⟨r2, a2, s2, q, q1, q2⟩ := ih k (x3 ++ [r']) a' s' (by simp; omega) (by simp; omega) (by omega) (by omega) (by omega)
      exact ⟨r2, a2, s2, q, by omega, by omega⟩
    · rw [if_neg c]; exact ⟨_, _, _, rfl, by omega, by omega⟩
theorem t_slips_l0 (l : List Int) (h : Code8 l) : ∀ (n k : Nat) (x3 : List Int) (x4 at_ sd : Int), x4 ≤ n → x3.length + n ≤ 100 → n + 20 < k → 0 ≤ at_ → at_ + 2 * n ≤ 500000 → ∃ r a s, spec_l1Cur_slips.l0 k x3 x4 l at_ sd = some (r, a, s) ∧ at_ ≤ a ∧ a ≤ at_ + 2 * n + 100 := by
  intro n
  induction n with
  | zero =>
    intro k x3 x4 at_ sd h1 h2 hk h3 h4
    obtain ⟨k, rfl⟩ : ∃ m, k = m + 1 := ⟨k - 1, by omega⟩
    simp only [spec_l1Cur_slips.l0]
    rw [if_neg (by omega)]
    obtain ⟨r, a, s, e, e0, e3, e1, e2⟩ := t_pick l h at_ sd 16 h3 (by omega) (by omega)
    rw [e]; simp only [Option.bind_some]
    by_cases c0 : r = 0
    · rw [if_pos c0]; exact ⟨_, _, _, rfl, by omega, by omega⟩
    · rw [if_neg c0]
      by_cases c1 : r = 1
      · rw [if_pos c1]
        obtain ⟨r', a', s', e', _, e1', e2'⟩ := t_among l h a s [(-1), 0, 1000, 1001, 4611686018427387904] (by simp) (by simp) (by omega) (by omega)
        rw [e']; simp only [Option.bind_some]; rw [if_pos (by omega)]; exact ⟨_, _, _, rfl, by omega, by omega⟩
      · rw [if_neg c1]
        by_cases c2 : r = 2
        · rw [if_pos c2]
          obtain ⟨r2, a2, s2, q, q1, q2⟩ := t_slips_l1 l h 13 k x3 a s (by omega) (by omega) (by omega) (by omega) (by omega)
          exact ⟨r2, a2, s2, q, by omega, by omega⟩
        · rw [if_neg c2]; exact ⟨_, _, _, rfl, by omega, by omega⟩
  | succ n ih =>
    intro k x3 x4 at_ sd h1 h2 hk h3 h4
    by_cases c : x4 > 0
    · obtain ⟨k, rfl⟩ : ∃ m, k = m + 1 := ⟨k - 1, by omega⟩
      simp only [spec_l1Cur_slips.l0]
      rw [if_pos c]
      obtain ⟨r, a, s, e, e0, e3, e1, e2⟩ := t_pick l h at_ sd 6 h3 (by omega) (by omega)
      rw [e]; simp only [Option.bind_some]
      rw [if_pos (by omega), dw64 _ (by omega) (by omega)]
      obtain ⟨r2, a2, s2, q, q1, q2⟩ := ih k (x3 ++ [r]) (x4 - 1) a s (by omega) (by simp; omega) (by omega) (by omega) (by omega)
      exact ⟨r2, a2, s2, q, by omega, by omega⟩
    · obtain ⟨r2, a2, s2, q, q1, q2⟩ := ih k x3 x4 at_ sd (by omega) (by omega) (by omega) h3 (by omega)
      exact ⟨r2, a2, s2, q, by omega, by omega⟩
theorem t_slips (l : List Int) (h : Code8 l) (at_ sd : Int) (h0 : 0 ≤ at_) (h1 : at_ ≤ 400000) : ∃ r a s, spec_l1Cur_slips.f 100 l at_ sd = some (r, a, s) ∧ at_ ≤ a ∧ a ≤ at_ + 200 := by
  unfold spec_l1Cur_slips.f
  obtain ⟨r, a, s, e, e0, e3, e1, e2⟩ := t_pick l h at_ sd 4 h0 (by omega) (by omega)
  rw [e]; simp only [Option.bind_some]
  rw [dw64 _ (by omega) (by omega)]
  obtain ⟨r2, a2, s2, q, q1, q2⟩ := t_slips_l0 l h 4 100 [] (1 + r) a s (by omega) (by simp) (by omega) (by omega) (by omega)
  exact ⟨r2, a2, s2, q, by omega, by omega⟩
end Go.Proofs.Ytbbglmoenjdloaa.DrawP
