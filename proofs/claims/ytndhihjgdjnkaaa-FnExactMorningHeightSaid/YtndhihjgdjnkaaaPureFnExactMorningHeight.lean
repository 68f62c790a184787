/- The pure statement of the law FnExactMorningHeight: what the program's function computes is what the reference's computes. -/
import Derived.Test.YtndhihjgdjnkaaaPFnExactMorningHeightx1
namespace Go.Proofs.Ytndhihjgdjnkaaa.Pure
open Go.RowKit Go.Proofs.Ytndhihjgdjnkaaa.PFnExactMorningHeight Go.Proofs.YtndhihjgdjnkaaaW.PrintWords Go.Proofs.YtndhihjgdjnkaaaW.PrintLast Go.Proofs.YtndhihjgdjnkaaaW.PrintMore
set_option linter.unusedVariables false
set_option linter.unusedSimpArgs false
theorem w64 (n : Int) (h1 : -9223372036854775808 ≤ n) (h2 : n ≤ 9223372036854775807) : wrap64 n = n := by unfold wrap64; omega
theorem dec_and (p q : Prop) [Decidable p] [Decidable q] [Decidable (p ∧ q)] : (if p then some (decide q) else some false) = some (decide (p ∧ q)) := by
  by_cases h : p <;> by_cases h' : q <;> simp [h, h']
theorem le_cases (a b c : Int) : (if a ≥ b then some (decide (a ≤ c)) else some false) = some (decide (b ≤ a ∧ a ≤ c)) := by
  by_cases h : b ≤ a <;> by_cases h' : a ≤ c <;> simp [h, h']
def gd (u d : Int) : Prop := 1 ≤ u ∧ u ≤ 1000 ∧ 0 ≤ d ∧ d ≤ 1000
instance (u d : Int) : Decidable (gd u d) := by unfold gd; infer_instance
def gw (w : Int) : Prop := 1 ≤ w ∧ w ≤ 1000000
instance (w : Int) : Decidable (gw w) := by unfold gw; infer_instance
def reach (u d day : Int) : Int := if u ≤ d then u else u + (day - 1) * (u - d)
def dayH (u d h : Int) : Int := if h ≤ u then 1 else if u ≤ d then 0 else 1 + (h - u + (u - d) - 1) / (u - d)
theorem mul_bd (a b A B : Int) (h1 : 0 ≤ a) (h2 : a ≤ A) (h3 : 0 ≤ b) (h4 : b ≤ B) : 0 ≤ a * b ∧ a * b ≤ A * B :=
  ⟨Int.mul_nonneg h1 h3, Int.mul_le_mul h2 h4 h3 (by omega)⟩
theorem reach_bd (u d day : Int) (g : gd u d) (w : gw day) : u ≤ reach u d day ∧ reach u d day ≤ 1000000000 := by
  unfold gd at g; unfold gw at w; unfold reach
  split
  · omega
  · have := mul_bd (day - 1) (u - d) 999999 1000 (by omega) (by omega) (by omega) (by omega)
    omega
theorem div_bd (x g : Int) (hg : 1 ≤ g) (hx : 0 ≤ x) : 0 ≤ x / g ∧ x / g ≤ x :=
  ⟨Int.ediv_nonneg hx (by omega), Int.ediv_le_self _ hx⟩
theorem dayH_bd (u d h : Int) (g : gd u d) (hh : h ≤ 1000000) : 0 ≤ dayH u d h ∧ dayH u d h ≤ 1001000 := by
  unfold gd at g; unfold dayH
  split
  · omega
  · split
    · omega
    · have := div_bd (h - u + (u - d) - 1) (u - d) (by omega) (by omega)
      omega
theorem ceil_le (x g n : Int) (hg : 1 ≤ g) : (x + g - 1) / g ≤ n ↔ x ≤ n * g := by
  have h : (x + g - 1) / g < n + 1 ↔ x + g - 1 < (n + 1) * g := Int.ediv_lt_iff_lt_mul (by omega)
  have e : (n + 1) * g = n * g + g := by rw [Int.add_mul, Int.one_mul]
  rw [e] at h
  constructor
  · intro k; have := h.mp (by omega); omega
  · intro k; have := h.mpr (by omega); omega
/-- The day is reached at the end of a day just if that day is not before it. -/
theorem dayH_le (u d h day : Int) (hd : 1 ≤ day) : (0 < dayH u d h ∧ dayH u d h ≤ day) ↔ h ≤ reach u d day := by
  unfold dayH reach
  by_cases h1 : h ≤ u
  · rw [if_pos h1]
    split
    · omega
    · have := Int.mul_nonneg (show 0 ≤ day - 1 by omega) (show 0 ≤ u - d by omega)
      omega
  · rw [if_neg h1]
    by_cases h2 : u ≤ d
    · rw [if_pos h2, if_pos h2]; omega
    · rw [if_neg h2, if_neg h2]
      have a := Int.ediv_nonneg (show 0 ≤ h - u + (u - d) - 1 by omega) (show 0 ≤ u - d by omega)
      have c := ceil_le (h - u) (u - d) (day - 1) (by omega)
      constructor
      · rintro ⟨_, k⟩; have := c.mp (by omega); omega
      · intro k; have := c.mpr (by omega); omega
theorem e_within (a b c : Int) : impl_within.f a b c = some (decide (b ≤ a ∧ a ≤ c)) := by
  unfold impl_within.f; exact le_cases a b c
theorem e_l1In (a b c : Int) : spec_l1In.f a b c = some (decide (b ≤ a ∧ a ≤ c)) := by
  unfold spec_l1In.f; exact le_cases a b c
theorem e_iIsSnail (u d : Int) : impl_IsSnail.f u d = some (decide (gd u d)) := by
  unfold impl_IsSnail.f; simp only [e_within, Option.bind_some]
  by_cases h : 1 ≤ u ∧ u ≤ 1000 <;> by_cases h' : 0 ≤ d ∧ d ≤ 1000 <;> simp [gd, h, h'] <;> omega
theorem e_snGood (u d : Int) : spec_snGood.f u d = some (decide (gd u d)) := by
  unfold spec_snGood.f; simp only [e_l1In, Option.bind_some]
  by_cases h : 1 ≤ u ∧ u ≤ 1000 <;> by_cases h' : 0 ≤ d ∧ d ≤ 1000 <;> simp [gd, h, h'] <;> omega
theorem e_toSnail (u d : Int) : laws_toSnail.f u d = some (u, d) := rfl
theorem e_isWall (a : Int) : impl_isWall.f a = some (decide (gw a)) := by
  unfold impl_isWall.f; simp only [e_within, Option.bind_some]; rfl
theorem e_snWall (a : Int) : spec_snWall.f a = some (decide (gw a)) := by
  unfold spec_snWall.f; simp only [e_l1In, Option.bind_some]; rfl
theorem e_snDay (a : Int) : spec_snDay.f a = some (decide (gw a)) := by
  unfold spec_snDay.f; simp only [e_l1In, Option.bind_some]; rfl
theorem e_isWalled (u d a : Int) : impl_isWalled.f u d a = some (decide (gd u d ∧ gw a)) := by
  unfold impl_isWalled.f; simp only [e_iIsSnail, e_isWall, Option.bind_some]
  by_cases h : gd u d <;> by_cases h' : gw a <;> simp [h, h']
theorem e_snAsked (u d a : Int) : spec_snAsked.f u d a = some (decide (gd u d ∧ gw a)) := by
  unfold spec_snAsked.f; simp only [e_snGood, e_snWall, Option.bind_some]
  by_cases h : gd u d <;> by_cases h' : gw a <;> simp [h, h']
theorem e_reachOf (u d day : Int) (g : gd u d) (w : gw day) : impl_reachOf.f u d day = some (reach u d day) := by
  have b := reach_bd u d day g w
  unfold gd at g; unfold gw at w; unfold impl_reachOf.f; unfold reach at b ⊢
  have m := mul_bd (day - 1) (u - d)
  rw [w64 (u - d) (by omega) (by omega), w64 (day - 1) (by omega) (by omega)]
  by_cases h : u ≤ d
  · rw [if_pos h]; unfold mx
    have e : (if 0 < u - d then u - d else 0) = 0 := if_neg (by omega)
    rw [e, Int.zero_mul, w64 0 (by omega) (by omega), w64 _ (by omega) (by omega)]; simp
  · rw [if_neg h] at b ⊢; unfold mx
    have e : (if 0 < u - d then u - d else 0) = u - d := if_pos (by omega)
    have m := mul_bd (day - 1) (u - d) 999999 1000 (by omega) (by omega) (by omega) (by omega)
    rw [e, Int.mul_comm (u - d), w64 ((day - 1) * (u - d)) (by omega) (by omega), w64 _ (by omega) (by omega)]
theorem e_snEvening (u d day : Int) (g : gd u d) (w : gw day) : spec_snEvening.f u d day = some (reach u d day) := by
  have b := reach_bd u d day g w
  unfold gd at g; unfold gw at w; unfold spec_snEvening.f; unfold reach at b ⊢
  by_cases h : u ≤ d
  · rw [if_pos h, if_pos h]
  · rw [if_neg h] at b
    rw [if_neg h, if_neg h]
    have m := mul_bd (day - 1) (u - d) 999999 1000 (by omega) (by omega) (by omega) (by omega)
    rw [w64 (u - d) (by omega) (by omega), w64 (day - 1) (by omega) (by omega), w64 ((day - 1) * (u - d)) (by omega) (by omega), w64 _ (by omega) (by omega)]
theorem e_eveningHeight (u d w day : Int) (g : gd u d) (h : gw day) : impl_eveningHeight.f u d w day = some (min w (reach u d day)) := by
  unfold impl_eveningHeight.f; rw [e_reachOf u d day g h]; simp only [Option.bind_some]; unfold mn; congr 1; omega
theorem e_l1Least (a b : Int) : spec_l1Least.f a b = some (min a b) := by
  unfold spec_l1Least.f; split <;> (congr 1; omega)
theorem e_l1Most (a b : Int) : spec_l1Most.f a b = some (max a b) := by
  unfold spec_l1Most.f; split <;> (congr 1; omega)
def mornV (u d w day : Int) : Int × Bool := if (gd u d ∧ gw w) ∧ gw day then (if day = 1 then 0 else if min w (reach u d (day - 1)) = w then w else max 0 (min w (reach u d (day - 1)) - d), true) else (0, false)
theorem e_iMorningHeight (k : Nat) (u d w day : Int) (hk : 1 ≤ k) : impl_MorningHeight.f k u d w day = some (mornV u d w day) := by
  obtain ⟨k, rfl⟩ : ∃ m, k = m + 1 := ⟨k - 1, by omega⟩
  unfold impl_MorningHeight.f mornV; rw [e_isWalled, e_isWall]; simp only [Option.bind_some, decide_eq_true_eq, impl_MorningHeight.j0]
  by_cases h : gd u d ∧ gw w <;> by_cases h' : gw day <;> simp [h, h']
  by_cases c : day = 1
  · simp [c]
  · have g' := h'
    unfold gw at g'
    have g1 : gw (day - 1) := by unfold gw; omega
    have b := reach_bd u d (day - 1) h.1 g1
    have g2 := h.1; have g3 := h.2; unfold gd at g2; unfold gw at g3
    rw [if_neg c, if_neg c, w64 (day - 1) (by omega) (by omega), e_eveningHeight u d w (day - 1) h.1 g1]
    simp only [Option.bind_some]
    by_cases c2 : min w (reach u d (day - 1)) = w
    · rw [if_pos c2, if_pos c2]
    · rw [if_neg c2, if_neg c2, w64 _ (by omega) (by omega)]; unfold mx; simp only [Option.some.injEq, Prod.mk.injEq, and_true]; omega
def mornI (u d w day : Int) : Int := if day = 1 then 0 else if min w (reach u d (day - 1)) = w then w else max 0 (min w (reach u d (day - 1)) - d)
theorem e_snMorning (u d w day : Int) (h : gd u d) (h2 : gw w) (h' : gw day) : spec_snMorning.f u d w day = some (mornI u d w day) := by
  unfold spec_snMorning.f mornI
  by_cases c : day = 1
  · simp [c]
  · have g' := h'
    unfold gw at g'
    have g1 : gw (day - 1) := by unfold gw; omega
    have b := reach_bd u d (day - 1) h g1
    have g2 := h; have g3 := h2; unfold gd at g2; unfold gw at g3
    rw [if_neg c, if_neg c, w64 (day - 1) (by omega) (by omega), e_snEvening u d (day - 1) h g1]
    simp only [Option.bind_some, e_l1Least]
    by_cases c2 : min w (reach u d (day - 1)) = w
    · rw [if_pos c2, if_pos c2]
    · rw [if_neg c2, if_neg c2, w64 _ (by omega) (by omega), e_l1Most]; rfl
theorem e_sMorningHeight (u d w day : Int) : spec_MorningHeight.f u d w day = some (mornV u d w day) := by
  unfold spec_MorningHeight.f mornV; rw [e_snAsked, e_snDay]; simp only [Option.bind_some, decide_eq_true_eq]
  by_cases h : gd u d ∧ gw w <;> by_cases h' : gw day <;> simp only [h, h', if_true, if_false, and_self, and_true, true_and, and_false, false_and]
  rw [e_snMorning u d w day h.1 h.2 h']; rfl
theorem FnExactMorningHeight : ∀ (a0_0 : Int) (a0_1 : Int) (a1 : Int) (a2 : Int), (Lit.int .i64 a0_0).wf = true → (Lit.int .i64 a0_1).wf = true → (Lit.int .i64 a1).wf = true → (Lit.int .i64 a2).wf = true → ∃ k, laws_FnExactMorningHeight.f k a0_0 a0_1 a1 a2 = some true := by
  intros
  refine ⟨2000, ?_⟩
  unfold laws_FnExactMorningHeight.f
  simp [e_toSnail, e_sMorningHeight, e_iMorningHeight]

end Go.Proofs.Ytndhihjgdjnkaaa.Pure
