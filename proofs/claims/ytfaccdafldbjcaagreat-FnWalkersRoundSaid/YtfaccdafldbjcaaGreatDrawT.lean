/- The functions that draw walkers: each answers. -/
import Derived.Test.YtfaccdafldbjcaaGreatOFnWalkersRoundx0
import Derived.Test.YtfaccdafldbjcaaGreatOFnWalkersRoundx1
import Derived.Test.YtfaccdafldbjcaaGreatOFnWalkersRoundx2
import Derived.Test.YtfaccdafldbjcaaGreatOFnWalkersRoundx3
import Derived.Test.YtfaccdafldbjcaaGreatOFnWalkersRoundx4
import Derived.Test.YtfaccdafldbjcaaGreatOFnWalkersRoundx5
import Derived.Test.YtfaccdafldbjcaaGreatOFnWalkersRoundx6
import Derived.Test.YtfaccdafldbjcaaGreatOFnWalkersRoundx7
import Derived.Test.YtfaccdafldbjcaaGreatOFnWalkersRoundx8
import Derived.Test.YtfaccdafldbjcaaGreatOFnWalkersRoundx9
import Derived.Test.YtfaccdafldbjcaaGreatOFnWalkersRoundx10
import Derived.Test.YtfaccdafldbjcaaGreatOFnWalkersRoundx11
import Derived.Test.YtfaccdafldbjcaaGreatOFnWalkersRoundx12
import Derived.Test.YtfaccdafldbjcaaGreatOFnWalkersRoundx13
import Derived.Laws.BitsAllLaws
import Derived.WalkKit
namespace Go.Proofs.YtfaccdafldbjcaaGreat.DrawP
open Go.RowKit Go.Proofs.YtfaccdafldbjcaaGreat.OFnWalkersRound Go.Proofs.YtfaccdafldbjcaaGreatW.PrintWords Go.Proofs.YtfaccdafldbjcaaGreatW.PrintLast Go.Proofs.YtfaccdafldbjcaaGreatW.PrintMore
set_option linter.unusedVariables false
set_option linter.unusedSimpArgs false
/-! ### the cursor's functions answer -/
theorem dw64 (n : Int) (h1 : -9223372036854775808 ≤ n) (h2 : n ≤ 9223372036854775807) : wrap64 n = n := by unfold wrap64; omega
def Code8 (l : List Int) : Prop := (∀ x ∈ l, 0 ≤ x ∧ x ≤ 255) ∧ (l.length : Int) ≤ 10000000
theorem and255 (x : Int) : 0 ≤ wrap64 (Go.bits .and .u64 (IntKind.u64.wrap x / 1099511627776) 255) ∧ wrap64 (Go.bits .and .u64 (IntKind.u64.wrap x / 1099511627776) 255) ≤ 255 := by
  have hx : 0 ≤ IntKind.u64.wrap x ∧ IntKind.u64.wrap x < 18446744073709551616 := by rw [IntKind.wrap_u64]; omega
  have hd : 0 ≤ IntKind.u64.wrap x / 1099511627776 ∧ IntKind.u64.wrap x / 1099511627776 < 18446744073709551616 := by omega
  rw [u64_and _ _ hd.1 hd.2 (by omega) (by omega)]
  have : (IntKind.u64.wrap x / 1099511627776).toNat &&& (255 : Int).toNat ≤ 255 := Nat.and_le_right
  rw [dw64 _ (by omega) (by omega)]
  omega
theorem rd_code {l : List Int} (h : Code8 l) (i : Int) (h0 : 0 ≤ i) (h1 : i < (l.length : Int)) : 0 ≤ rd l i ∧ rd l i ≤ 255 := by
  have e : rd l i = l[i.toNat]'(by omega) := by unfold rd; rw [List.getD_eq_getElem?_getD, List.getElem?_eq_getElem (by omega)]; rfl
  rw [e]
  exact h.1 _ (List.getElem_mem _)
theorem t_next (l : List Int) (h : Code8 l) (at_ sd : Int) (h0 : 0 ≤ at_) (h1 : at_ ≤ 1000000) : ∃ r a s, spec_l1Cur_next.f l at_ sd = some (r, a, s) ∧ 0 ≤ r ∧ r ≤ 255 ∧ a = at_ + 1 := by
  unfold spec_l1Cur_next.f
  have hl := h.2
  rw [dw64 (at_ + 1) (by omega) (by omega)]
  by_cases c : at_ < (l.length : Int)
  · have b := rd_code h at_ h0 c
    rw [if_pos c, if_pos h0, if_pos (by omega)]
    exact ⟨_, _, _, rfl, by rw [dw64 _ (by omega) (by omega)]; omega, by rw [dw64 _ (by omega) (by omega)]; omega, rfl⟩
  · rw [if_neg c]
    by_cases c2 : at_ + 1 ≤ (l.length : Int)
    · rw [if_pos c2]; exact ⟨_, _, _, rfl, by omega, by omega, rfl⟩
    · rw [if_neg c2]; exact ⟨_, _, _, rfl, (and255 _).1, (and255 _).2, rfl⟩
theorem t_pick (l : List Int) (h : Code8 l) (at_ sd n : Int) (h0 : 0 ≤ at_) (h1 : at_ ≤ 900000) (hn : n ≤ 1000000000) : ∃ r a s, spec_l1Cur_pick.f l at_ sd n = some (r, a, s) ∧ 0 ≤ r ∧ r < max n 1 ∧ at_ ≤ a ∧ a ≤ at_ + 2 := by
  unfold spec_l1Cur_pick.f
  by_cases c : n ≤ 1
  · rw [if_pos c]; exact ⟨_, _, _, rfl, by omega, by omega, by omega, by omega⟩
  · rw [if_neg c]
    obtain ⟨r, a, s, e, e1, e2, e3⟩ := t_next l h at_ sd h0 (by omega)
    rw [e]; simp only [Option.bind_some]
    by_cases c2 : n > 200
    · rw [if_pos c2]
      obtain ⟨r', a', s', e', e1', e2', e3'⟩ := t_next l h a s (by omega) (by omega)
      rw [e']; simp only [Option.bind_some]; rw [if_neg (by omega), dw64 (r * 256) (by omega) (by omega), dw64 _ (by omega) (by omega), Int.tmod_eq_emod_of_nonneg (by omega)]
      exact ⟨_, _, _, rfl, Int.emod_nonneg _ (by omega), by have := Int.emod_lt_of_pos (r * 256 + r') (show 0 < n by omega); omega, by omega, by omega⟩
    · rw [if_neg c2, if_neg (by omega), Int.tmod_eq_emod_of_nonneg (by omega)]
      exact ⟨_, _, _, rfl, Int.emod_nonneg _ (by omega), by have := Int.emod_lt_of_pos r (show 0 < n by omega); omega, by omega, by omega⟩
theorem t_one (l : List Int) (h : Code8 l) (at_ sd n : Int) (h0 : 0 ≤ at_) (h1 : at_ ≤ 900000) (hn : n ≤ 1000000000) : ∃ r a s, spec_l1Cur_one.f l at_ sd n = some (r, a, s) ∧ at_ ≤ a ∧ a ≤ at_ + 2 := by
  obtain ⟨r, a, s, e, _, _, e1, e2⟩ := t_pick l h at_ sd n h0 h1 hn
  unfold spec_l1Cur_one.f; rw [e]; simp only [Option.bind_some]
  exact ⟨_, _, _, rfl, e1, e2⟩
theorem t_among (l : List Int) (h : Code8 l) (at_ sd : Int) (xs : List Int) (hx : 1 ≤ xs.length) (hx2 : xs.length ≤ 1000) (h0 : 0 ≤ at_) (h1 : at_ ≤ 900000) : ∃ r a s, spec_l1Cur_among.f l at_ sd xs = some (r, a, s) ∧ r ∈ xs ∧ at_ ≤ a ∧ a ≤ at_ + 2 := by
  obtain ⟨r, a, s, e, e0, e3, e1, e2⟩ := t_pick l h at_ sd xs.length h0 h1 (by omega)
  unfold spec_l1Cur_among.f; rw [e]; simp only [Option.bind_some]
  have hr : r < (xs.length : Int) := by omega
  rw [if_pos e0, if_pos hr]
  exact ⟨_, _, _, rfl, by unfold rd; rw [List.getD_eq_getElem?_getD, List.getElem?_eq_getElem (by omega)]; exact List.getElem_mem _, e1, e2⟩
theorem t_sureWalker (l : List Int) (h : Code8 l) (at_ sd : Int) (h0 : 0 ≤ at_) (h1 : at_ ≤ 800000) : ∃ u d a s, spec_l1Cur_sureWalker.f l at_ sd = some (u, d, a, s) ∧ at_ ≤ a ∧ a ≤ at_ + 4 ∧ (-8 ≤ u ∧ u ≤ 16) ∧ (-5 ≤ d ∧ d ≤ 5) := by
  unfold spec_l1Cur_sureWalker.f
  obtain ⟨r, a, s, e, p1, p2, e1, e2⟩ := t_pick l h at_ sd 25 h0 (by omega) (by omega)
  rw [e]; simp only [Option.bind_some]
  obtain ⟨r', a', s', e', p1', p2', e1', e2'⟩ := t_pick l h a s 11 (by omega) (by omega) (by omega)
  rw [e']; simp only [Option.bind_some]
  rw [dw64 (r - 8) (by omega) (by omega), dw64 (r' - 5) (by omega) (by omega)]
  exact ⟨_, _, _, _, rfl, by omega, by omega, by omega, by omega⟩
theorem t_walker (l : List Int) (h : Code8 l) (at_ sd : Int) (h0 : 0 ≤ at_) (h1 : at_ ≤ 700000) : ∃ u d a s, spec_l1Cur_walker.f l at_ sd = some (u, d, a, s) ∧ at_ ≤ a ∧ a ≤ at_ + 8 := by
  unfold spec_l1Cur_walker.f
  obtain ⟨u, d, a, s, e, e1, e2, _, _⟩ := t_sureWalker l h at_ sd h0 (by omega)
  rw [e]; simp only [Option.bind_some]
  obtain ⟨r', a', s', e', p1', p2', e1', e2'⟩ := t_pick l h a s 20 (by omega) (by omega) (by omega)
  rw [e']; simp only [Option.bind_some]
  by_cases c : r' = 0
  · rw [if_pos c]
    obtain ⟨r2, a2, s2, e3, _, e4, e5⟩ := t_among l h a' s' [(-1000), 1000, 1001, (-4611686018427387904)] (by simp) (by simp) (by omega) (by omega)
    rw [e3]; simp only [Option.bind_some]; exact ⟨_, _, _, _, rfl, by omega, by omega⟩
  · rw [if_neg c]
    by_cases c2 : r' = 1
    · rw [if_pos c2]
      obtain ⟨r2, a2, s2, e3, _, e4, e5⟩ := t_among l h a' s' [(-100), 100, 101, 4611686018427387904] (by simp) (by simp) (by omega) (by omega)
      rw [e3]; simp only [Option.bind_some]; exact ⟨_, _, _, _, rfl, by omega, by omega⟩
    · rw [if_neg c2]; exact ⟨_, _, _, _, rfl, by omega, by omega⟩
theorem t_time2 (l : List Int) (h : Code8 l) (at_ sd : Int) (h0 : 0 ≤ at_) (h1 : at_ ≤ 700000) : ∃ u d a s, spec_l1Cur_time2.f l at_ sd = some (u, d, a, s) ∧ at_ ≤ a ∧ a ≤ at_ + 8 := by
  unfold spec_l1Cur_time2.f
  obtain ⟨r, a, s, e, e1, e2⟩ := t_one l h at_ sd 10 h0 (by omega) (by omega)
  rw [e]; simp only [Option.bind_some]
  by_cases c : r = true
  · rw [if_pos c]
    obtain ⟨r', a', s', e', _, e1', e2'⟩ := t_among l h a s [(-1), 0, 1000000, 1000001] (by simp) (by simp) (by omega) (by omega)
    rw [e']; simp only [Option.bind_some]
    obtain ⟨r2, a2, s2, e3, _, e4, e5⟩ := t_among l h a' s' [0, 1, 1000, 1001, (-1)] (by simp) (by simp) (by omega) (by omega)
    rw [e3]; simp only [Option.bind_some]; exact ⟨_, _, _, _, rfl, by omega, by omega⟩
  · rw [if_neg c]
    obtain ⟨r', a', s', e', p1, p2, e1', e2'⟩ := t_pick l h a s 20 (by omega) (by omega) (by omega)
    rw [e']; simp only [Option.bind_some]
    obtain ⟨r2, a2, s2, e3, _, _, e4, e5⟩ := t_pick l h a' s' 5 (by omega) (by omega) (by omega)
    rw [e3]; simp only [Option.bind_some]; exact ⟨_, _, _, _, rfl, by omega, by omega⟩
theorem t_walkers_l1 (l : List Int) (h : Code8 l) : ∀ (n k : Nat) (x3 : List S25) (at_ sd : Int), 9 ≤ x3.length + n → x3.length ≤ 100 → n < k → 0 ≤ at_ → at_ + 6 * n ≤ 600000 → ∃ r a s, spec_l1Cur_walkers.l1 k x3 l at_ sd = some (r, a, s) ∧ at_ ≤ a ∧ a ≤ at_ + 6 * n + 2 ∧ r.length ≤ 200 := by
  intro n
  induction n with
  | zero =>
    intro k x3 at_ sd h1 h2 hk h3 h4
    obtain ⟨k, rfl⟩ : ∃ m, k = m + 1 := ⟨k - 1, by omega⟩
    simp only [spec_l1Cur_walkers.l1]
    obtain ⟨r, a, s, e, e0, e3, e1, e2⟩ := t_pick l h at_ sd 2 h3 (by omega) (by omega)
    rw [e]; simp only [Option.bind_some]
    rw [dw64 _ (by omega) (by omega), if_neg (by omega)]
    exact ⟨_, _, _, rfl, by omega, by omega, by omega⟩
  | succ n ih =>
    intro k x3 at_ sd h1 h2 hk h3 h4
    obtain ⟨k, rfl⟩ : ∃ m, k = m + 1 := ⟨k - 1, by omega⟩
    simp only [spec_l1Cur_walkers.l1]
    obtain ⟨r, a, s, e, e0, e3, e1, e2⟩ := t_pick l h at_ sd 2 h3 (by omega) (by omega)
    rw [e]; simp only [Option.bind_some]
    rw [dw64 _ (by omega) (by omega)]
    by_cases c : (x3.length : Int) < 8 + r
    · rw [if_pos c]
      obtain ⟨u, d, a', s', e', e1', e2', _, _⟩ := t_sureWalker l h a s (by omega) (by omega)
      rw [e']; simp only [Option.bind_some]
      rw [if_pos (by omega)]
      obtain ⟨r2, a2, s2, q, q1, q2, q3⟩ := ih k (x3 ++ [⟨u, d⟩]) a' s' (by simp; omega) (by simp; omega) (by omega) (by omega) (by omega)
      exact ⟨r2, a2, s2, q, by omega, by omega, q3⟩
    · rw [if_neg c]; exact ⟨_, _, _, rfl, by omega, by omega, by omega⟩
theorem t_walkers_l0 (l : List Int) (h : Code8 l) : ∀ (n k : Nat) (x3 : List S25) (x4 at_ sd : Int), x4 ≤ n → x3.length + n ≤ 50 → 0 < (x3.length : Int) + x4 → 0 ≤ x4 → n + 20 < k → 0 ≤ at_ → at_ + 8 * n ≤ 500000 → ∃ r a s, spec_l1Cur_walkers.l0 k x3 x4 l at_ sd = some (r, a, s) ∧ at_ ≤ a ∧ a ≤ at_ + 8 * n + 100 ∧ r.length ≤ 200 := by
  intro n
  induction n with
  | zero =>
    intro k x3 x4 at_ sd h1 h2 hx hx4 hk h3 h4
    obtain ⟨k, rfl⟩ : ∃ m, k = m + 1 := ⟨k - 1, by omega⟩
    simp only [spec_l1Cur_walkers.l0]
    rw [if_neg (by omega)]
    obtain ⟨r, a, s, e, e0, e3, e1, e2⟩ := t_pick l h at_ sd 20 h3 (by omega) (by omega)
    rw [e]; simp only [Option.bind_some]
    by_cases c0 : r = 0
    · rw [if_pos c0]; exact ⟨_, _, _, rfl, by omega, by omega, by simp⟩
    · rw [if_neg c0]
      by_cases c1 : r = 1
      · rw [if_pos c1]
        obtain ⟨r2, a2, s2, q, q1, q2, q3⟩ := t_walkers_l1 l h 9 k x3 a s (by omega) (by omega) (by omega) (by omega) (by omega)
        exact ⟨r2, a2, s2, q, by omega, by omega, q3⟩
      · rw [if_neg c1]
        by_cases c2 : r = 2
        · rw [if_pos c2, if_pos (by omega), if_pos (by omega)]; exact ⟨_, _, _, rfl, by omega, by omega, by simp; omega⟩
        · rw [if_neg c2]
          by_cases c3 : r = 3
          · rw [if_pos c3, if_pos (by omega), if_pos (by omega)]; exact ⟨_, _, _, rfl, by omega, by omega, by simp; omega⟩
          · rw [if_neg c3]; exact ⟨_, _, _, rfl, by omega, by omega, by omega⟩
  | succ n ih =>
    intro k x3 x4 at_ sd h1 h2 hx hx4 hk h3 h4
    by_cases c : x4 > 0
    · obtain ⟨k, rfl⟩ : ∃ m, k = m + 1 := ⟨k - 1, by omega⟩
      simp only [spec_l1Cur_walkers.l0]
      rw [if_pos c]
      obtain ⟨u, d, a, s, e, e1, e2⟩ := t_walker l h at_ sd h3 (by omega)
      rw [e]; simp only [Option.bind_some]
      rw [if_pos (by omega), dw64 _ (by omega) (by omega)]
      obtain ⟨r2, a2, s2, q, q1, q2, q3⟩ := ih k (x3 ++ [⟨u, d⟩]) (x4 - 1) a s (by omega) (by simp; omega) (by simp; omega) (by omega) (by omega) (by omega) (by omega)
      exact ⟨r2, a2, s2, q, by omega, by omega, q3⟩
    · obtain ⟨r2, a2, s2, q, q1, q2, q3⟩ := ih k x3 x4 at_ sd (by omega) (by omega) hx hx4 (by omega) h3 (by omega)
      exact ⟨r2, a2, s2, q, by omega, by omega, q3⟩
theorem t_walkers (l : List Int) (h : Code8 l) (at_ sd : Int) (h0 : 0 ≤ at_) (h1 : at_ ≤ 400000) : ∃ r a s, spec_l1Cur_walkers.f 100 l at_ sd = some (r, a, s) ∧ at_ ≤ a ∧ a ≤ at_ + 200 ∧ r.length ≤ 200 := by
  unfold spec_l1Cur_walkers.f
  obtain ⟨r, a, s, e, e0, e3, e1, e2⟩ := t_pick l h at_ sd 5 h0 (by omega) (by omega)
  rw [e]; simp only [Option.bind_some]
  rw [dw64 _ (by omega) (by omega)]
  obtain ⟨r2, a2, s2, q, q1, q2, q3⟩ := t_walkers_l0 l h 5 100 [] (1 + r) a s (by omega) (by simp) (by simp; omega) (by omega) (by omega) (by omega) (by omega)
  exact ⟨r2, a2, s2, q, by omega, by omega, q3⟩
end Go.Proofs.YtfaccdafldbjcaaGreat.DrawP
