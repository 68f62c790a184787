/- The functions that draw snails: each answers. -/
import Derived.Test.YtaoejhikigljeaaGreatDoorOFnSnailsClimbx1
import Derived.Test.YtaoejhikigljeaaGreatDoorOFnSnailsClimbx2
import Derived.Test.YtaoejhikigljeaaGreatDoorOFnSnailsClimbx3
import Derived.Test.YtaoejhikigljeaaGreatDoorOFnSnailsClimbx4
import Derived.Test.YtaoejhikigljeaaGreatDoorOFnSnailsClimbx5
import Derived.Test.YtaoejhikigljeaaGreatDoorOFnSnailsClimbx6
import Derived.Test.YtaoejhikigljeaaGreatDoorOFnSnailsClimbx7
import Derived.Test.YtaoejhikigljeaaGreatDoorOFnSnailsClimbx8
import Derived.Test.YtaoejhikigljeaaGreatDoorOFnSnailsClimbx9
import Derived.Test.YtaoejhikigljeaaGreatDoorTx
import Derived.Laws.BitsAllLaws
import Derived.Deep.RegionWith
import Derived.Deep.RegionHeld3
import Derived.WalkKit
namespace Go.Proofs.YtaoejhikigljeaaGreatDoor.DrawP
open Go.RowKit Go.Proofs.YtaoejhikigljeaaGreatDoor.OFnSnailsClimb Go.Proofs.YtaoejhikigljeaaGreatDoorW.PrintWords Go.Proofs.YtaoejhikigljeaaGreatDoorW.PrintLast Go.Proofs.YtaoejhikigljeaaGreatDoorW.PrintMore
set_option linter.unusedVariables false
set_option linter.unusedSimpArgs false
/-! ### the cursor's functions answer -/
theorem dw64 (n : Int) (h1 : -9223372036854775808 ≤ n) (h2 : n ≤ 9223372036854775807) : wrap64 n = n := by unfold wrap64; omega
def Code8 (l : List Int) : Prop := (∀ x ∈ l, 0 ≤ x ∧ x ≤ 255) ∧ (l.length : Int) ≤ 10000000
theorem and255 (x : Int) : 0 ≤ wrap64 (Go.bits .and .u64 (IntKind.u64.wrap x / 1099511627776) 255) ∧ wrap64 (Go.bits .and .u64 (IntKind.u64.wrap x / 1099511627776) 255) ≤ 255 := by
  have hx : 0 ≤ IntKind.u64.wrap x ∧ IntKind.u64.wrap x < 18446744073709551616 := by rw [IntKind.wrap_u64]; omega
  have hd : 0 ≤ IntKind.u64.wrap x / 1099511627776 ∧ IntKind.u64.wrap x / 1099511627776 < 18446744073709551616 := by omega
  rw [u64_and _ _ hd.1 hd.2 (by omega) (by omega)]
  have : (IntKind.u64.wrap x / 1099511627776).toNat &&& (255 : Int).toNat ≤ 255 := Nat.and_le_right
  rw [dw64 _ (by omega) (by omega)]
  omega
theorem rd_code {l : List Int} (h : Code8 l) (i : Int) (h0 : 0 ≤ i) (h1 : i < (l.length : Int)) : 0 ≤ rd l i ∧ rd l i ≤ 255 := by
  have e : rd l i = l[i.toNat]'(by omega) := by unfold rd; rw [List.getD_eq_getElem?_getD, List.getElem?_eq_getElem (by omega)]; rfl
  rw [e]
  exact h.1 _ (List.getElem_mem _)
theorem t_next (l : List Int) (h : Code8 l) (at_ sd : Int) (h0 : 0 ≤ at_) (h1 : at_ ≤ 1000000) : ∃ r a s, spec_l1Cur_next.f l at_ sd = some (r, a, s) ∧ 0 ≤ r ∧ r ≤ 255 ∧ a = at_ + 1 := by
  unfold spec_l1Cur_next.f
  have hl := h.2
  rw [dw64 (at_ + 1) (by omega) (by omega)]
  by_cases c : at_ < (l.length : Int)
  · have b := rd_code h at_ h0 c
    rw [if_pos c, if_pos h0, if_pos (by omega)]
    exact ⟨_, _, _, rfl, by rw [dw64 _ (by omega) (by omega)]; omega, by rw [dw64 _ (by omega) (by omega)]; omega, rfl⟩
  · rw [if_neg c]
    by_cases c2 : at_ + 1 ≤ (l.length : Int)
    · rw [if_pos c2]; exact ⟨_, _, _, rfl, by omega, by omega, rfl⟩
    · rw [if_neg c2]; exact ⟨_, _, _, rfl, (and255 _).1, (and255 _).2, rfl⟩
theorem t_pick (l : List Int) (h : Code8 l) (at_ sd n : Int) (h0 : 0 ≤ at_) (h1 : at_ ≤ 900000) (hn : n ≤ 1000000000) : ∃ r a s, spec_l1Cur_pick.f l at_ sd n = some (r, a, s) ∧ 0 ≤ r ∧ r < max n 1 ∧ at_ ≤ a ∧ a ≤ at_ + 2 := by
  unfold spec_l1Cur_pick.f
  by_cases c : n ≤ 1
  · rw [if_pos c]; exact ⟨_, _, _, rfl, by omega, by omega, by omega, by omega⟩
  · rw [if_neg c]
    obtain ⟨r, a, s, e, e1, e2, e3⟩ := t_next l h at_ sd h0 (by omega)
    rw [e]; simp only [Option.bind_some]
    by_cases c2 : n > 200
    · rw [if_pos c2]
      obtain ⟨r', a', s', e', e1', e2', e3'⟩ := t_next l h a s (by omega) (by omega)
      rw [e']; simp only [Option.bind_some]; rw [if_neg (by omega), dw64 (r * 256) (by omega) (by omega), dw64 _ (by omega) (by omega), Int.tmod_eq_emod_of_nonneg (by omega)]
      exact ⟨_, _, _, rfl, Int.emod_nonneg _ (by omega), by have := Int.emod_lt_of_pos (r * 256 + r') (show 0 < n by omega); omega, by omega, by omega⟩
    · rw [if_neg c2, if_neg (by omega), Int.tmod_eq_emod_of_nonneg (by omega)]
      exact ⟨_, _, _, rfl, Int.emod_nonneg _ (by omega), by have := Int.emod_lt_of_pos r (show 0 < n by omega); omega, by omega, by omega⟩
theorem t_one (l : List Int) (h : Code8 l) (at_ sd n : Int) (h0 : 0 ≤ at_) (h1 : at_ ≤ 900000) (hn : n ≤ 1000000000) : ∃ r a s, spec_l1Cur_one.f l at_ sd n = some (r, a, s) ∧ at_ ≤ a ∧ a ≤ at_ + 2 := by
  obtain ⟨r, a, s, e, _, _, e1, e2⟩ := t_pick l h at_ sd n h0 h1 hn
  unfold spec_l1Cur_one.f; rw [e]; simp only [Option.bind_some]
  exact ⟨_, _, _, rfl, e1, e2⟩
theorem t_among (l : List Int) (h : Code8 l) (at_ sd : Int) (xs : List Int) (hx : 1 ≤ xs.length) (hx2 : xs.length ≤ 1000) (h0 : 0 ≤ at_) (h1 : at_ ≤ 900000) : ∃ r a s, spec_l1Cur_among.f l at_ sd xs = some (r, a, s) ∧ r ∈ xs ∧ at_ ≤ a ∧ a ≤ at_ + 2 := by
  obtain ⟨r, a, s, e, e0, e3, e1, e2⟩ := t_pick l h at_ sd xs.length h0 h1 (by omega)
  unfold spec_l1Cur_among.f; rw [e]; simp only [Option.bind_some]
  have hr : r < (xs.length : Int) := by omega
  rw [if_pos e0, if_pos hr]
  exact ⟨_, _, _, rfl, by unfold rd; rw [List.getD_eq_getElem?_getD, List.getElem?_eq_getElem (by omega)]; exact List.getElem_mem _, e1, e2⟩
theorem t_sureSnail (l : List Int) (h : Code8 l) (at_ sd : Int) (h0 : 0 ≤ at_) (h1 : at_ ≤ 800000) : ∃ u d a s, spec_l1Cur_sureSnail.f l at_ sd = some (u, d, a, s) ∧ at_ ≤ a ∧ a ≤ at_ + 6 := by
  unfold spec_l1Cur_sureSnail.f
  obtain ⟨r, a, s, e, e1, e2⟩ := t_one l h at_ sd 6 h0 (by omega) (by omega)
  rw [e]; simp only [Option.bind_some]
  by_cases c : r = true
  · rw [if_pos c]
    obtain ⟨r', a', s', e', _, e1', e2'⟩ := t_among l h a s [1, 7, 1000] (by simp) (by simp) (by omega) (by omega)
    rw [e']; simp only [Option.bind_some]
    obtain ⟨r2, a2, s2, e3, _, e4, e5⟩ := t_among l h a' s' [0, 1, 7, 999, 1000] (by simp) (by simp) (by omega) (by omega)
    rw [e3]; simp only [Option.bind_some]; exact ⟨_, _, _, _, rfl, by omega, by omega⟩
  · rw [if_neg c]
    obtain ⟨r', a', s', e', p1, p2, e1', e2'⟩ := t_pick l h a s 9 (by omega) (by omega) (by omega)
    rw [e']; simp only [Option.bind_some]
    rw [dw64 (1 + r') (by omega) (by omega), dw64 _ (by omega) (by omega)]
    obtain ⟨r2, a2, s2, e3, _, _, e4, e5⟩ := t_pick l h a' s' (1 + r' + 1) (by omega) (by omega) (by omega)
    rw [e3]; simp only [Option.bind_some]; exact ⟨_, _, _, _, rfl, by omega, by omega⟩
theorem t_snail (l : List Int) (h : Code8 l) (at_ sd : Int) (h0 : 0 ≤ at_) (h1 : at_ ≤ 700000) : ∃ u d a s, spec_l1Cur_snail.f l at_ sd = some (u, d, a, s) ∧ at_ ≤ a ∧ a ≤ at_ + 8 := by
  unfold spec_l1Cur_snail.f
  obtain ⟨r, a, s, e, e1, e2⟩ := t_one l h at_ sd 14 h0 (by omega) (by omega)
  rw [e]; simp only [Option.bind_some]
  by_cases c : r = true
  · rw [if_pos c]
    obtain ⟨r', a', s', e', _, e1', e2'⟩ := t_among l h a s [(-1), 0, 1, 1001, 4611686018427387904] (by simp) (by simp) (by omega) (by omega)
    rw [e']; simp only [Option.bind_some]
    obtain ⟨r2, a2, s2, e3, _, e4, e5⟩ := t_among l h a' s' [(-1), 0, 1, 1001, (-9223372036854775808)] (by simp) (by simp) (by omega) (by omega)
    rw [e3]; simp only [Option.bind_some]; exact ⟨_, _, _, _, rfl, by omega, by omega⟩
  · rw [if_neg c]
    obtain ⟨u, d, a', s', e', e1', e2'⟩ := t_sureSnail l h a s (by omega) (by omega)
    rw [e']; simp only [Option.bind_some]; exact ⟨_, _, _, _, rfl, by omega, by omega⟩
theorem t_wall (l : List Int) (h : Code8 l) (at_ sd : Int) (h0 : 0 ≤ at_) (h1 : at_ ≤ 700000) : ∃ u a s, spec_l1Cur_wall.f l at_ sd = some (u, a, s) ∧ at_ ≤ a ∧ a ≤ at_ + 4 := by
  unfold spec_l1Cur_wall.f
  obtain ⟨r, a, s, e, e1, e2⟩ := t_one l h at_ sd 8 h0 (by omega) (by omega)
  rw [e]; simp only [Option.bind_some]
  by_cases c : r = true
  · rw [if_pos c]
    obtain ⟨r', a', s', e', _, e1', e2'⟩ := t_among l h a s [(-1), 0, 1, 1000, 1000000, 1000001, 4611686018427387904] (by simp) (by simp) (by omega) (by omega)
    rw [e']; simp only [Option.bind_some]; exact ⟨_, _, _, rfl, by omega, by omega⟩
  · rw [if_neg c]
    obtain ⟨r', a', s', e', p1, p2, e1', e2'⟩ := t_pick l h a s 60 (by omega) (by omega) (by omega)
    rw [e']; simp only [Option.bind_some]; exact ⟨_, _, _, rfl, by omega, by omega⟩
theorem t_day (l : List Int) (h : Code8 l) (at_ sd : Int) (h0 : 0 ≤ at_) (h1 : at_ ≤ 700000) : ∃ u a s, spec_l1Cur_day.f l at_ sd = some (u, a, s) ∧ at_ ≤ a ∧ a ≤ at_ + 4 := by
  unfold spec_l1Cur_day.f
  obtain ⟨r, a, s, e, e1, e2⟩ := t_one l h at_ sd 8 h0 (by omega) (by omega)
  rw [e]; simp only [Option.bind_some]
  by_cases c : r = true
  · rw [if_pos c]
    obtain ⟨r', a', s', e', _, e1', e2'⟩ := t_among l h a s [(-1), 0, 1, 1000, 1001, 1000000, 1000001, 4611686018427387904] (by simp) (by simp) (by omega) (by omega)
    rw [e']; simp only [Option.bind_some]; exact ⟨_, _, _, rfl, by omega, by omega⟩
  · rw [if_neg c]
    obtain ⟨r', a', s', e', p1, p2, e1', e2'⟩ := t_pick l h a s 30 (by omega) (by omega) (by omega)
    rw [e']; simp only [Option.bind_some]; exact ⟨_, _, _, rfl, by omega, by omega⟩
theorem ex_size (x : ByteArray) (a b : Nat) : (x.extract a b).size ≤ x.size - a := by
  rw [ByteArray.size_extract]; omega
theorem ex_size0 (x : ByteArray) (b : Nat) : (x.extract 0 b).size ≤ b := by
  rw [ByteArray.size_extract]; omega
theorem t_spoilt_l0 (l : List Int) (h : Code8 l) (x2 : ByteArray) (g1 : 1 ≤ x2.size) (g2 : x2.size ≤ 100) : ∀ (n k : Nat) (x1 : ByteArray) (x7 at_ sd : Int), x7 ≤ n → x1.size + n ≤ 1000 → 2 * n + 2 < k → 0 ≤ at_ → at_ + 6 * n ≤ 500000 → ∃ r a s, spec_l1Cur_spoilt.l0 k x1 x2 x7 l at_ sd = some (r, a, s) ∧ at_ ≤ a ∧ a ≤ at_ + 6 * n ∧ r.size ≤ 1000 := by
  intro n
  induction n with
  | zero =>
    intro k x1 x7 at_ sd h1 h2 hk h3 h4
    obtain ⟨k, rfl⟩ : ∃ m, k = m + 2 := ⟨k - 2, by omega⟩
    simp only [spec_l1Cur_spoilt.l0]
    rw [if_neg (by omega)]
    simp only [spec_l1Cur_spoilt.j1]
    rw [if_neg (by simp)]
    exact ⟨_, _, _, rfl, by omega, by omega, by omega⟩
  | succ n ih =>
    intro k x1 x7 at_ sd h1 h2 hk h3 h4
    obtain ⟨k, rfl⟩ : ∃ m, k = m + 2 := ⟨k - 2, by omega⟩
    simp only [spec_l1Cur_spoilt.l0]
    by_cases c : x7 > 0
    · rw [if_pos c]
      simp only [spec_l1Cur_spoilt.j1]
      by_cases c2 : (x1.size : Int) > 0
      · rw [if_pos (decide_eq_true c2)]
        obtain ⟨i, a, s, e, e0, e3, e1, e2⟩ := t_pick l h at_ sd (x1.size : Int) h3 (by omega) (by omega)
        rw [e]; simp only [Option.bind_some]
        obtain ⟨j, a', s', e', e0', e3', e1', e2'⟩ := t_pick l h a s (x2.size : Int) (by omega) (by omega) (by omega)
        rw [e']; simp only [Option.bind_some]
        rw [if_pos e0', if_pos (by omega)]
        obtain ⟨y, hy⟩ : ∃ y, strOfNums [bt x2 j] = y := ⟨_, rfl⟩
        have hys : y.size ≤ 1 := by rw [← hy]; exact Nat.le_of_eq rfl
        obtain ⟨r3, a3, s3, e3_, p0, p1, p2, p3⟩ := t_pick l h a' s' 3 (by omega) (by omega) (by omega)
        rw [e3_]; simp only [Option.bind_some, hy]
        have z1 := ex_size0 x1 i.toNat
        have z2 := ex_size x1 i.toNat x1.size
        have z3 := ex_size x1 (i + 1).toNat x1.size
        rw [dw64 (i + 1) (by omega) (by omega), dw64 (x7 - 1) (by omega) (by omega)]
        by_cases c3 : r3 = 0
        · rw [if_pos c3, if_pos e0, if_pos (by omega), if_pos (by omega), if_pos (by rw [ByteArray.size_append]; omega)]
          obtain ⟨r2, a2, s2, q, q1, q2, q3⟩ := ih k (x1.extract 0 i.toNat ++ y ++ x1.extract i.toNat x1.size) (x7 - 1) a3 s3 (by omega) (by rw [ByteArray.size_append, ByteArray.size_append]; omega) (by omega) (by omega) (by omega)
          exact ⟨r2, a2, s2, q, by omega, by omega, q3⟩
        · rw [if_neg c3]
          by_cases c4 : r3 = 1
          · rw [if_pos c4, if_pos e0, if_pos (by omega), if_pos (by omega), if_pos (by omega), if_pos (by omega), if_pos (by rw [ByteArray.size_append]; omega)]
            obtain ⟨r2, a2, s2, q, q1, q2, q3⟩ := ih k (x1.extract 0 i.toNat ++ y ++ x1.extract (i + 1).toNat x1.size) (x7 - 1) a3 s3 (by omega) (by rw [ByteArray.size_append, ByteArray.size_append]; omega) (by omega) (by omega) (by omega)
            exact ⟨r2, a2, s2, q, by omega, by omega, q3⟩
          · rw [if_neg c4, if_pos e0, if_pos (by omega), if_pos (by omega), if_pos (by omega), if_pos (by omega)]
            obtain ⟨r2, a2, s2, q, q1, q2, q3⟩ := ih k (x1.extract 0 i.toNat ++ x1.extract (i + 1).toNat x1.size) (x7 - 1) a3 s3 (by omega) (by rw [ByteArray.size_append]; omega) (by omega) (by omega) (by omega)
            exact ⟨r2, a2, s2, q, by omega, by omega, q3⟩
      · rw [decide_eq_false c2, if_neg (by simp)]
        exact ⟨_, _, _, rfl, by omega, by omega, by omega⟩
    · rw [if_neg c]
      simp only [spec_l1Cur_spoilt.j1]
      rw [if_neg (by simp)]
      exact ⟨_, _, _, rfl, by omega, by omega, by omega⟩
theorem t_spoilt (k : Nat) (hk : 10 < k) (l : List Int) (h : Code8 l) (at_ sd : Int) (x1 x2 : ByteArray) (g0 : x1.size ≤ 900) (g1 : 1 ≤ x2.size) (g2 : x2.size ≤ 100) (h0 : 0 ≤ at_) (h1 : at_ ≤ 400000) : ∃ r a s, spec_l1Cur_spoilt.f k l at_ sd x1 x2 = some (r, a, s) ∧ at_ ≤ a ∧ a ≤ at_ + 200 ∧ r.size ≤ 1000 := by
  obtain ⟨r, a, s, e, e0, e3, e1, e2⟩ := t_pick l h at_ sd 2 h0 (by omega) (by omega)
  obtain ⟨r2, a2, s2, q, q1, q2, q3⟩ := t_spoilt_l0 l h x2 g1 g2 2 k x1 (1 + r) a s (by omega) (by omega) (by omega) (by omega) (by omega)
  refine ⟨r2, a2, s2, ?_, by omega, by omega, q3⟩
  unfold spec_l1Cur_spoilt.f
  rw [e]
  simp only [Option.bind_some]
  rw [dw64 _ (by omega) (by omega)]
  exact q
theorem t_sureSnail2 (l : List Int) (h : Code8 l) (at_ sd : Int) (h0 : 0 ≤ at_) (h1 : at_ ≤ 800000) : ∃ u d a s, spec_l1Cur_sureSnail.f l at_ sd = some (u, d, a, s) ∧ at_ ≤ a ∧ a ≤ at_ + 6 ∧ (0 ≤ u ∧ u ≤ 1000) ∧ (0 ≤ d ∧ d ≤ 1000) := by
  unfold spec_l1Cur_sureSnail.f
  obtain ⟨r, a, s, e, e1, e2⟩ := t_one l h at_ sd 6 h0 (by omega) (by omega)
  rw [e]; simp only [Option.bind_some]
  by_cases c : r = true
  · rw [if_pos c]
    obtain ⟨r', a', s', e', m1, e1', e2'⟩ := t_among l h a s [1, 7, 1000] (by simp) (by simp) (by omega) (by omega)
    rw [e']; simp only [Option.bind_some]
    obtain ⟨r2, a2, s2, e3, m2, e4, e5⟩ := t_among l h a' s' [0, 1, 7, 999, 1000] (by simp) (by simp) (by omega) (by omega)
    simp only [List.mem_cons, List.not_mem_nil, or_false] at m1 m2
    rw [e3]; simp only [Option.bind_some]; exact ⟨_, _, _, _, rfl, by omega, by omega, by omega, by omega⟩
  · rw [if_neg c]
    obtain ⟨r', a', s', e', p1, p2, e1', e2'⟩ := t_pick l h a s 9 (by omega) (by omega) (by omega)
    rw [e']; simp only [Option.bind_some]
    rw [dw64 (1 + r') (by omega) (by omega), dw64 _ (by omega) (by omega)]
    obtain ⟨r2, a2, s2, e3, p3, p4, e4, e5⟩ := t_pick l h a' s' (1 + r' + 1) (by omega) (by omega) (by omega)
    rw [e3]; simp only [Option.bind_some]; exact ⟨_, _, _, _, rfl, by omega, by omega, by omega, by omega⟩
theorem box_cur (w : World) (A : Option Addr) (c : Nat) (l : List Int) (T S : TypeId) :
    Below w.heap.size w ((w.alloc (.cells #[.int .i64 0, .int .i64 0] T)).alloc (.cells #[.slice A l.length c, .int .i64 0, .int .u64 0] S)) ∧
    ((w.alloc (.cells #[.int .i64 0, .int .i64 0] T)).alloc (.cells #[.slice A l.length c, .int .i64 0, .int .u64 0] S)).heap[w.heap.size]? = some (.cells #[.int .i64 0, .int .i64 0] T (0, 0)) ∧
    ((w.alloc (.cells #[.int .i64 0, .int .i64 0] T)).alloc (.cells #[.slice A l.length c, .int .i64 0, .int .u64 0] S)).heap[w.heap.size + 1]? = some (.cells #[.slice A l.length c, .int .i64 0, .int .u64 0] S (0, 0)) := by
  have h1 := heap_alloc_new w (.cells #[.int .i64 0, .int .i64 0] T)
  have h2 := heap_alloc_new (w.alloc (.cells #[.int .i64 0, .int .i64 0] T)) (.cells #[.slice A l.length c, .int .i64 0, .int .u64 0] S)
  rw [World.size_alloc] at h2
  exact ⟨below_alloc (below_alloc (Below.refl _ _) _) _, blk_alloc h1 _, h2⟩
/-- What a drawn snail, wall and day hold. -/
def DrwS3 (w : World) (e : Ending) (w' : World) : Prop := ∃ u d a b : Int, e = .returned (.tuple #[.agg #[.int .i64 u, .int .i64 d], .int .i64 a, .int .i64 b]) ∧ Below w.heap.size w w'
set_option maxHeartbeats 4000000 in
set_option maxRecDepth 100000 in
theorem drawEH (A : Option Addr) (c : Nat) (l : List Int) (hc8 : Code8 l) (w : World) (hr : Kd.C (Kd.int .u8) w A l.length l) :
    Calls Tryz.prog 34 #[.slice A l.length c] w (DrwS3 w) := by
  obtain ⟨a1, b1, at1, sd1, e1, p1, q1⟩ := t_snail l hc8 0 0 (by omega) (by omega)
  obtain ⟨a2, at2, sd2, e2, p2, q2⟩ := t_wall l hc8 at1 sd1 (by omega) (by omega)
  obtain ⟨a3, at3, sd3, e3, p3, q3⟩ := t_day l hc8 at2 sd2 (by omega) (by omega)
  have E1 := Aside0.mk e1
  have E2 := Aside0.mk e2
  have E3 := Aside0.mk e3
  have HR := Aside0.mk hr
  clear e1 e2 e3 p1 q1 p2 q2 p3 q3 hr hc8
  have hu := Tryz.underlying25
  go_enter Tryz.func34, Tryz.ntmps34
  go_wp2_with fail
  obtain ⟨b0, z0, i0⟩ := box_cur w A c l 25 56
  have I0 : IsS56 w _ (w.heap.size + 1) l 0 0 := ⟨A, c, i0, by omega, HR.out⟩
  clear i0
  (refine (spec_l1Cur_snail.calls _ l 0 0 _ _ _ _ w _ I0 b0 E1.out).mono ?_)
  rintro e W1 ⟨rfl, I1, B1, K1⟩
  have Z1 := (K1.2 _ (blk_lt z0) (by omega) (by simp)).trans z0
  clear I0 b0 z0 K1
  go_wp2_with fail
  (refine (spec_l1Cur_wall.calls _ l at1 sd1 _ _ _ w _ I1 B1 E2.out).mono ?_)
  rintro e W2 ⟨rfl, I2, B2, K2⟩
  have Z2 := (K2.2 _ (blk_lt Z1) (by omega) (by simp)).trans Z1
  clear I1 B1 Z1 K2
  go_wp2_with fail
  (refine (spec_l1Cur_day.calls _ l at2 sd2 _ _ _ w _ I2 B2 E3.out).mono ?_)
  rintro e W3 ⟨rfl, I3, B3, K3⟩
  have Z3 := (K3.2 _ (blk_lt Z2) (by omega) (by simp)).trans Z2
  clear I2 B2 Z2 K3 I3
  have cA0 := blk_cell Z3 0
  have cA1 := blk_cell Z3 1
  have fA0 := blk_frozen Z3 0
  have fA1 := blk_frozen Z3 1
  have B5 := Aside0.mk B3
  have y1 := blk_set (blk_set Z3 0 (.int .i64 a1)) 1 (.int .i64 b1)
  have g0 := Aside0.mk (blk_cell y1 0)
  have g1 := Aside0.mk (blk_cell y1 1)
  clear B3 Z3 y1
  simp at cA0 cA1
  go_wp2_with fail
  have g0 := g0.out
  have g1 := g1.out
  simp at g0 g1
  refine bodyPost_ret (v := .tuple #[.agg #[.int .i64 a1, .int .i64 b1], .int .i64 a2, .int .i64 a3]) (by simp [results, Tryz.results34, go_sem, g0, g1]) rfl ⟨a1, b1, a2, a3, rfl, ?_⟩
  exact (B5.out.setCell (Nat.le_refl _) _).setCell (Nat.le_refl _) _
set_option maxHeartbeats 4000000 in
set_option maxRecDepth 100000 in
theorem drawMH (A : Option Addr) (c : Nat) (l : List Int) (hc8 : Code8 l) (w : World) (hr : Kd.C (Kd.int .u8) w A l.length l) :
    Calls Tryz.prog 5 #[.slice A l.length c] w (DrwS3 w) := by
  have b0 := below_alloc (Below.refl w.heap.size w) (.cells #[.int .i64 0, .int .i64 0] 25)
  have z0 := heap_alloc_new w (.cells #[.int .i64 0, .int .i64 0] 25)
  have H := Aside0.mk (drawEH A c l hc8 _ (Kd.C_below hr b0))
  have hu := Tryz.underlying25
  have Z0 := Aside0.mk z0
  have B0 := Aside0.mk b0
  clear hr hc8 z0 b0
  go_enter Tryz.func5, Tryz.ntmps5
  go_wp2_with fail
  (refine H.out.mono ?_)
  rintro e W3 ⟨a1, b1, a2, a3, rfl, hb⟩
  have Z3 := blk_below Z0.out hb
  have cA0 := blk_cell Z3 0
  have cA1 := blk_cell Z3 1
  have fA0 := blk_frozen Z3 0
  have fA1 := blk_frozen Z3 1
  have B5 := Aside0.mk (B0.out.trans (hb.mono B0.out.size))
  have y1 := blk_set (blk_set Z3 0 (.int .i64 a1)) 1 (.int .i64 b1)
  have g0 := Aside0.mk (blk_cell y1 0)
  have g1 := Aside0.mk (blk_cell y1 1)
  clear Z3 y1 hb H
  simp at cA0 cA1
  go_wp2_with fail
  have g0 := g0.out
  have g1 := g1.out
  simp at g0 g1
  refine bodyPost_ret (v := .tuple #[.agg #[.int .i64 a1, .int .i64 b1], .int .i64 a2, .int .i64 a3]) (by simp [results, Tryz.results5, go_sem, g0, g1]) rfl ⟨a1, b1, a2, a3, rfl, ?_⟩
  exact (B5.out.setCell (Nat.le_refl _) _).setCell (Nat.le_refl _) _
theorem cur_box (w : World) (A : Option Addr) (c : Nat) (l : List Int) (S : TypeId) :
    Below w.heap.size w (w.alloc (.cells #[.slice A l.length c, .int .i64 0, .int .u64 0] S)) ∧ (w.alloc (.cells #[.slice A l.length c, .int .i64 0, .int .u64 0] S)).heap[w.heap.size]? = some (.cells #[.slice A l.length c, .int .i64 0, .int .u64 0] S (0, 0)) :=
  ⟨below_alloc (Below.refl _ _) _, heap_alloc_new w _⟩
/-- What a drawn text holds. -/
def DrwStr (w : World) (e : Ending) (w' : World) : Prop := ∃ s : ByteArray, e = .returned (.string s) ∧ s.size ≤ 1000 ∧ Below w.heap.size w w'
set_option maxHeartbeats 4000000 in
set_option maxRecDepth 100000 in
theorem drawPS (hT : ∀ u d : Int, (0 ≤ u ∧ u ≤ 1000) → (0 ≤ d ∧ d ≤ 1000) → ∃ s, spec_snText.f 200 u d = some s ∧ s.size ≤ 900)
    (A : Option Addr) (c : Nat) (l : List Int) (hc8 : Code8 l) (w : World) (hr : Kd.C (Kd.int .u8) w A l.length l) :
    Calls Tryz.prog 32 #[.slice A l.length c] w (DrwStr w) := by
  obtain ⟨a1, b1, at1, sd1, e1, p1, q1, x1, y1⟩ := t_sureSnail2 l hc8 0 0 (by omega) (by omega)
  obtain ⟨s, es, hs⟩ := hT a1 b1 x1 y1
  obtain ⟨r3, at3, sd3, e3, p3, q3⟩ := t_one l hc8 at1 sd1 3 (by omega) (by omega) (by omega)
  obtain ⟨t, at4, sd4, e4, p4, q4, ht⟩ := t_spoilt 100 (by omega) l hc8 at3 sd3 s ⟨#[48, 49, 50, 51, 45, 120]⟩ hs (by decide) (by decide) (by omega) (by omega)
  have E1 := Aside0.mk e1
  have E3 := Aside0.mk e3
  have E4 := Aside0.mk e4
  have ES := Aside0.mk es
  have HS := Aside0.mk hs
  have HT := Aside0.mk ht
  have HR := Aside0.mk hr
  clear e1 p1 q1 hr hc8 x1 y1 hT e3 e4 p3 q3 p4 q4 es hs ht
  have hu := Tryz.underlying25
  go_enter Tryz.func32, Tryz.ntmps32
  go_wp2_with fail
  obtain ⟨b0, i0⟩ := cur_box w A c l 56
  have I0 : IsS56 w _ w.heap.size l 0 0 := ⟨A, c, i0, by omega, HR.out⟩
  clear i0
  (refine (spec_l1Cur_sureSnail.calls _ l 0 0 _ _ _ _ w _ I0 b0 E1.out).mono ?_)
  rintro e W1 ⟨rfl, I1, B1, K1⟩
  clear I0 b0 K1
  go_wp2_with fail
  (refine (spec_snText.calls 200 a1 b1 s _ ES.out).mono ?_)
  rintro e W2 ⟨rfl, hb⟩
  have hb := (by first | exact hb | exact hb.below : Below W1.heap.size W1 W2)
  have I2 := I1.below hb
  have B2 := B1.trans (hb.mono B1.size)
  clear I1 B1 hb
  go_wp2_with fail
  (refine (spec_l1Cur_one.calls _ l at1 sd1 3 _ _ _ w _ I2 B2 E3.out).mono ?_)
  rintro e W7 ⟨rfl, I7, B7, K7⟩
  clear K7
  cases r3
  · have B8 := Aside0.mk B7
    clear I7 B7
    go_wp2_with fail
    refine bodyPost_ret (v := .string s) (by simp [results, Tryz.results32, go_sem]) rfl ⟨s, rfl, by have := HS.out; omega, B8.out⟩
  · go_wp2_with fail
    (refine (spec_l1Cur_spoilt.calls 100 _ l at3 sd3 s _ _ _ _ w _ I7 B7 E4.out).mono ?_)
    rintro e W8 ⟨rfl, I8, B8, K8⟩
    have B9 := Aside0.mk B8
    clear I7 B7 I8 B8 K8
    go_wp2_with fail
    refine bodyPost_ret (v := .string t) (by simp [results, Tryz.results32, go_sem]) rfl ⟨t, rfl, HT.out, B9.out⟩
theorem C_row {w : World} {g : Nat} (l : List Int) (h : w.heap[g]? = some (.cells (l.map (Value.int .i64)).toArray 3 (0, 0))) (hl : l.length ≤ 1000) : Kd.C (Kd.int .i64) w (some ⟨g, 0, none⟩) l.length l := by
  refine ⟨rfl, by omega, fun _ => ⟨⟨g, 0, none⟩, rfl, fun j p hj => ?_⟩⟩
  refine ⟨[.int .i64 p], rfl, rfl, fun i u hi => ?_⟩
  match i, hi with
  | 0, hi =>
    simp at hi
    have hjl := (List.getElem?_eq_some_iff.1 hj).1
    have := blk_cell h j
    have e : (Kd.int .i64).sz = 1 := rfl
    rw [e, Nat.mul_one, Nat.add_zero, show (⟨g, 0, none⟩ : Addr).add j = ⟨g, j, none⟩ by simp [Addr.add]; intro h; exact h.symm, this, ← hi]
    simp [hj]
  | i + 1, hi => simp at hi
/-- What three drawn numbers hold. -/
def DrwI3 (w : World) (e : Ending) (w' : World) : Prop := ∃ a b c : Int, e = .returned (.tuple #[.int .i64 a, .int .i64 b, .int .i64 c]) ∧ Below w.heap.size w w'
set_option maxHeartbeats 4000000 in
set_option maxRecDepth 100000 in
theorem drawSU (A : Option Addr) (c : Nat) (l : List Int) (hc8 : Code8 l) (w : World) (hr : Kd.C (Kd.int .u8) w A l.length l) :
    Calls Tryz.prog 26 #[.slice A l.length c] w (DrwI3 w) := by
  obtain ⟨a1, at1, sd1, e1, p1, q1⟩ := t_wall l hc8 0 0 (by omega) (by omega)
  obtain ⟨a2, at2, sd2, e2, p2, q2⟩ := t_day l hc8 at1 sd1 (by omega) (by omega)
  obtain ⟨a3, at3, sd3, e3, _, p3, q3⟩ := t_among l hc8 at2 sd2 [0, 1, 2, 3, 5, 1000, 1001, (-1)] (by simp) (by simp) (by omega) (by omega)
  have E1 := Aside0.mk e1
  have E2 := Aside0.mk e2
  have E3 := Aside0.mk e3
  have HR := Aside0.mk hr
  clear e1 e2 e3 p1 q1 p2 q2 p3 q3 hr hc8
  go_enter Tryz.func26, Tryz.ntmps26
  go_wp2_with fail
  obtain ⟨b0, i0⟩ := cur_box w A c l 56
  have I0 : IsS56 w _ w.heap.size l 0 0 := ⟨A, c, i0, by omega, HR.out⟩
  clear i0
  (refine (spec_l1Cur_wall.calls _ l 0 0 _ _ _ w _ I0 b0 E1.out).mono ?_)
  rintro e W1 ⟨rfl, I1, B1, K1⟩
  clear I0 b0 K1
  go_wp2_with fail
  (refine (spec_l1Cur_day.calls _ l at1 sd1 _ _ _ w _ I1 B1 E2.out).mono ?_)
  rintro e W2 ⟨rfl, I2, B2, K2⟩
  clear I1 B1 K2
  go_wp2_with fail
  have I3 := I2.alloc (.cells (([0, 1, 2, 3, 5, 1000, 1001, (-1)] : List Int).map (Value.int .i64)).toArray 3)
  have B3 := below_alloc B2 (.cells (([0, 1, 2, 3, 5, 1000, 1001, (-1)] : List Int).map (Value.int .i64)).toArray 3)
  have R3 := C_row ([0, 1, 2, 3, 5, 1000, 1001, (-1)] : List Int) (heap_alloc_new W2 (.cells (([0, 1, 2, 3, 5, 1000, 1001, (-1)] : List Int).map (Value.int .i64)).toArray 3)) (by simp)
  have gl : w.heap.size < W2.heap.size := I2.lt
  clear I2 B2
  (refine (spec_l1Cur_among.calls _ l at2 sd2 _ _ [0, 1, 2, 3, 5, 1000, 1001, (-1)] _ _ _ w _ I3 B3 R3 (by simp) (by intro ad h _; cases h; simp; omega) E3.out).mono ?_)
  rintro e W4 ⟨rfl, I4, B4, K4⟩
  have B5 := Aside0.mk B4
  clear I3 B3 R3 I4 B4 K4
  go_wp2_with fail
  refine bodyPost_ret (v := .tuple #[.int .i64 a1, .int .i64 a2, .int .i64 a3]) (by simp [results, Tryz.results26, go_sem]) rfl ⟨a1, a2, a3, rfl, B5.out⟩
set_option maxHeartbeats 4000000 in
set_option maxRecDepth 100000 in
theorem drawMD (A : Option Addr) (c : Nat) (l : List Int) (hc8 : Code8 l) (w : World) (hr : Kd.C (Kd.int .u8) w A l.length l) :
    Calls Tryz.prog 29 #[.slice A l.length c] w (DrwI3 w) := by
  obtain ⟨a1, at1, sd1, e1, p1, q1⟩ := t_wall l hc8 0 0 (by omega) (by omega)
  obtain ⟨a2, at2, sd2, e2, p2, q2⟩ := t_day l hc8 at1 sd1 (by omega) (by omega)
  obtain ⟨a3, at3, sd3, e3, _, p3, q3⟩ := t_among l hc8 at2 sd2 [1, 2, 3, 5, 9, 1000, 1001, 0] (by simp) (by simp) (by omega) (by omega)
  have E1 := Aside0.mk e1
  have E2 := Aside0.mk e2
  have E3 := Aside0.mk e3
  have HR := Aside0.mk hr
  clear e1 e2 e3 p1 q1 p2 q2 p3 q3 hr hc8
  go_enter Tryz.func29, Tryz.ntmps29
  go_wp2_with fail
  obtain ⟨b0, i0⟩ := cur_box w A c l 56
  have I0 : IsS56 w _ w.heap.size l 0 0 := ⟨A, c, i0, by omega, HR.out⟩
  clear i0
  (refine (spec_l1Cur_wall.calls _ l 0 0 _ _ _ w _ I0 b0 E1.out).mono ?_)
  rintro e W1 ⟨rfl, I1, B1, K1⟩
  clear I0 b0 K1
  go_wp2_with fail
  (refine (spec_l1Cur_day.calls _ l at1 sd1 _ _ _ w _ I1 B1 E2.out).mono ?_)
  rintro e W2 ⟨rfl, I2, B2, K2⟩
  clear I1 B1 K2
  go_wp2_with fail
  have I3 := I2.alloc (.cells (([1, 2, 3, 5, 9, 1000, 1001, 0] : List Int).map (Value.int .i64)).toArray 3)
  have B3 := below_alloc B2 (.cells (([1, 2, 3, 5, 9, 1000, 1001, 0] : List Int).map (Value.int .i64)).toArray 3)
  have R3 := C_row ([1, 2, 3, 5, 9, 1000, 1001, 0] : List Int) (heap_alloc_new W2 (.cells (([1, 2, 3, 5, 9, 1000, 1001, 0] : List Int).map (Value.int .i64)).toArray 3)) (by simp)
  have gl : w.heap.size < W2.heap.size := I2.lt
  clear I2 B2
  (refine (spec_l1Cur_among.calls _ l at2 sd2 _ _ [1, 2, 3, 5, 9, 1000, 1001, 0] _ _ _ w _ I3 B3 R3 (by simp) (by intro ad h _; cases h; simp; omega) E3.out).mono ?_)
  rintro e W4 ⟨rfl, I4, B4, K4⟩
  have B5 := Aside0.mk B4
  clear I3 B3 R3 I4 B4 K4
  go_wp2_with fail
  refine bodyPost_ret (v := .tuple #[.int .i64 a1, .int .i64 a2, .int .i64 a3]) (by simp [results, Tryz.results29, go_sem]) rfl ⟨a1, a2, a3, rfl, B5.out⟩
set_option maxHeartbeats 4000000 in
set_option maxRecDepth 100000 in
theorem drawDH (hL : ∀ a b : Int, spec_l1Least.f a b = some (min a b)) (hM : ∀ a b : Int, spec_l1Most.f a b = some (max a b)) (A : Option Addr) (c : Nat) (l : List Int) (hc8 : Code8 l) (w : World) (hr : Kd.C (Kd.int .u8) w A l.length l) :
    Calls Tryz.prog 21 #[.slice A l.length c] w (DrwS3 w) := by
  obtain ⟨a2, at1, sd1, e1, p1, q1⟩ := t_wall l hc8 0 0 (by omega) (by omega)
  obtain ⟨a1, b1, at2, sd2, e2, p2, q2⟩ := t_snail l hc8 at1 sd1 (by omega) (by omega)
  obtain ⟨M, hMd⟩ : ∃ M, max 1 a2 = M := ⟨_, rfl⟩
  obtain ⟨L, hLd⟩ : ∃ L, min 1000 M = L := ⟨_, rfl⟩
  have hLb : 1 ≤ L ∧ L ≤ 1000 := by omega
  obtain ⟨x3, at3, sd3, e3, u3, v3, p3, q3⟩ := t_pick l hc8 at2 sd2 (L + 2) (by omega) (by omega) (by omega)
  obtain ⟨x4, at4, sd4, e4, u4, v4, p4, q4⟩ := t_pick l hc8 at3 sd3 9 (by omega) (by omega) (by omega)
  have hLw : IntKind.i64.wrap (L + 2) = L + 2 := by rw [IntKind.wrap_i64]; omega
  have hLw' : wrap64 (L + 2) = L + 2 := dw64 _ (by omega) (by omega)
  have E1 := Aside0.mk e1
  have E2 := Aside0.mk e2
  have E3 := Aside0.mk e3
  have E4 := Aside0.mk e4
  have HL := Aside0.mk (hLd ▸ hL 1000 M)
  have HM := Aside0.mk (hMd ▸ hM 1 a2)
  have HR := Aside0.mk hr
  clear e1 e2 e3 e4 p1 q1 p2 q2 p3 q3 p4 q4 u3 v3 u4 v4 hLb hLd hMd hr hc8 hL hM
  have hu := Tryz.underlying25
  go_enter Tryz.func21, Tryz.ntmps21
  go_wp2_with fail
  obtain ⟨b0, z0, i0⟩ := box_cur w A c l 25 56
  have I0 : IsS56 w _ (w.heap.size + 1) l 0 0 := ⟨A, c, i0, by omega, HR.out⟩
  clear i0
  (refine (spec_l1Cur_wall.calls _ l 0 0 _ _ _ w _ I0 b0 E1.out).mono ?_)
  rintro e W1 ⟨rfl, I1, B1, K1⟩
  have Z1 := (K1.2 _ (blk_lt z0) (by omega) (by simp)).trans z0
  clear I0 b0 z0 K1
  go_wp2_with fail
  (refine (spec_l1Cur_snail.calls _ l at1 sd1 _ _ _ _ w _ I1 B1 E2.out).mono ?_)
  rintro e W2 ⟨rfl, I2, B2, K2⟩
  have Z2 := (K2.2 _ (blk_lt Z1) (by omega) (by simp)).trans Z1
  clear I1 B1 Z1 K2
  go_wp2_with fail
  (refine (spec_l1Most.calls 1 a2 M _ HM.out).mono ?_)
  rintro e W3 ⟨rfl, hb⟩
  have hb := (by first | exact hb | exact hb.below : Below W2.heap.size W2 W3)
  have I3 := I2.below hb
  have B3 := B2.trans (hb.mono B2.size)
  have Z3 := blk_below Z2 hb
  clear I2 B2 Z2 hb
  go_wp2_with fail
  (refine (spec_l1Least.calls 1000 M L _ HL.out).mono ?_)
  rintro e W4 ⟨rfl, hb⟩
  have hb := (by first | exact hb | exact hb.below : Below W3.heap.size W3 W4)
  have I4 := I3.below hb
  have B4 := B3.trans (hb.mono B3.size)
  have Z4 := blk_below Z3 hb
  clear I3 B3 Z3 hb
  go_wp2_with fail
  (refine (spec_l1Cur_pick.calls _ l at2 sd2 (L + 2) _ _ _ w _ I4 B4 E3.out).mono ?_)
  rintro e W5 ⟨rfl, I5, B5, K5⟩
  have Z5 := (K5.2 _ (blk_lt Z4) (by omega) (by simp)).trans Z4
  clear I4 B4 Z4 K5
  go_wp2_with fail
  (refine (spec_l1Cur_pick.calls _ l at3 sd3 9 _ _ _ w _ I5 B5 E4.out).mono ?_)
  rintro e W6 ⟨rfl, I6, B6, K6⟩
  have Z6 := (K6.2 _ (blk_lt Z5) (by omega) (by simp)).trans Z5
  clear I5 B5 Z5 K6 I6
  have cA0 := blk_cell Z6 0
  have cA1 := blk_cell Z6 1
  have fA0 := blk_frozen Z6 0
  have fA1 := blk_frozen Z6 1
  have B7 := Aside0.mk B6
  have y1 := blk_set (blk_set Z6 0 (.int .i64 a1)) 1 (.int .i64 b1)
  have g0 := Aside0.mk (blk_cell y1 0)
  have g1 := Aside0.mk (blk_cell y1 1)
  clear B6 Z6 y1
  simp at cA0 cA1
  go_wp2_with fail
  have g0 := g0.out
  have g1 := g1.out
  simp at g0 g1
  refine bodyPost_ret (v := .tuple #[.agg #[.int .i64 a1, .int .i64 b1], .int .i64 a2, .int .i64 (wrap64 (x3 - wrap64 (x4.tdiv 8)))]) (by simp [results, Tryz.results21, go_sem, g0, g1]) rfl ⟨a1, b1, a2, _, rfl, ?_⟩
  exact (B7.out.setCell (Nat.le_refl _) _).setCell (Nat.le_refl _) _
end Go.Proofs.YtaoejhikigljeaaGreatDoor.DrawP
