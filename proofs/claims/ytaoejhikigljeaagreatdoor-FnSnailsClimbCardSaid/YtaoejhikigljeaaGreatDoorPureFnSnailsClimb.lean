/- The pure statement of the law FnSnailsClimb: what the program's function computes is what the reference's computes. -/
import Derived.Test.YtaoejhikigljeaaGreatDoorClimbA
namespace Go.Proofs.YtaoejhikigljeaaGreatDoor.Pure
open Go.RowKit Go.Proofs.YtaoejhikigljeaaGreatDoor.Tx Go.Proofs.YtaoejhikigljeaaGreatDoor.OFnSnailsClimb Go.Proofs.YtaoejhikigljeaaGreatDoorW.PrintWords Go.Proofs.YtaoejhikigljeaaGreatDoorW.PrintLast Go.Proofs.YtaoejhikigljeaaGreatDoorW.PrintMore
set_option linter.unusedVariables false
set_option linter.unusedSimpArgs false
theorem w64 (n : Int) (h1 : -9223372036854775808 ≤ n) (h2 : n ≤ 9223372036854775807) : wrap64 n = n := by unfold wrap64; omega
theorem le_cases (a b c : Int) : (if a ≥ b then some (decide (a ≤ c)) else some false) = some (decide (b ≤ a ∧ a ≤ c)) := by
  by_cases h : b ≤ a <;> by_cases h' : a ≤ c <;> simp [h, h']
def gd (u d : Int) : Prop := 1 ≤ u ∧ u ≤ 1000 ∧ 0 ≤ d ∧ d ≤ 1000
instance (u d : Int) : Decidable (gd u d) := by unfold gd; infer_instance
def gw (w : Int) : Prop := 1 ≤ w ∧ w ≤ 1000000
instance (w : Int) : Decidable (gw w) := by unfold gw; infer_instance
def reach (u d day : Int) : Int := if u ≤ d then u else u + (day - 1) * (u - d)
def dayH (u d h : Int) : Int := if h ≤ u then 1 else if u ≤ d then 0 else 1 + (h - u + (u - d) - 1) / (u - d)
theorem mul_bd (a b A B : Int) (h1 : 0 ≤ a) (h2 : a ≤ A) (h3 : 0 ≤ b) (h4 : b ≤ B) : 0 ≤ a * b ∧ a * b ≤ A * B :=
  ⟨Int.mul_nonneg h1 h3, Int.mul_le_mul h2 h4 h3 (by omega)⟩
theorem reach_bd (u d day : Int) (g : gd u d) (w : gw day) : u ≤ reach u d day ∧ reach u d day ≤ 1000000000 := by
  unfold gd at g; unfold gw at w; unfold reach
  split
  · omega
  · have := mul_bd (day - 1) (u - d) 999999 1000 (by omega) (by omega) (by omega) (by omega)
    omega
theorem div_bd (x g : Int) (hg : 1 ≤ g) (hx : 0 ≤ x) : 0 ≤ x / g ∧ x / g ≤ x :=
  ⟨Int.ediv_nonneg hx (by omega), Int.ediv_le_self _ hx⟩
theorem dayH_bd (u d h : Int) (g : gd u d) (hh : h ≤ 1000000) : 0 ≤ dayH u d h ∧ dayH u d h ≤ 1001000 := by
  unfold gd at g; unfold dayH
  split
  · omega
  · split
    · omega
    · have := div_bd (h - u + (u - d) - 1) (u - d) (by omega) (by omega)
      omega
theorem ceil_le (x g n : Int) (hg : 1 ≤ g) : (x + g - 1) / g ≤ n ↔ x ≤ n * g := by
  have h : (x + g - 1) / g < n + 1 ↔ x + g - 1 < (n + 1) * g := Int.ediv_lt_iff_lt_mul (by omega)
  have e : (n + 1) * g = n * g + g := by rw [Int.add_mul, Int.one_mul]
  rw [e] at h
  constructor
  · intro k; have := h.mp (by omega); omega
  · intro k; have := h.mpr (by omega); omega
/-- The day is reached at the end of a day just if that day is not before it. -/
theorem dayH_le (u d h day : Int) (hd : 1 ≤ day) : (0 < dayH u d h ∧ dayH u d h ≤ day) ↔ h ≤ reach u d day := by
  unfold dayH reach
  by_cases h1 : h ≤ u
  · rw [if_pos h1]
    split
    · omega
    · have := Int.mul_nonneg (show 0 ≤ day - 1 by omega) (show 0 ≤ u - d by omega)
      omega
  · rw [if_neg h1]
    by_cases h2 : u ≤ d
    · rw [if_pos h2, if_pos h2]; omega
    · rw [if_neg h2, if_neg h2]
      have a := Int.ediv_nonneg (show 0 ≤ h - u + (u - d) - 1 by omega) (show 0 ≤ u - d by omega)
      have c := ceil_le (h - u) (u - d) (day - 1) (by omega)
      constructor
      · rintro ⟨_, k⟩; have := c.mp (by omega); omega
      · intro k; have := c.mpr (by omega); omega
def daysV (u d w : Int) : Int × Bool := if gd u d ∧ gw w then (dayH u d w, decide (0 < dayH u d w)) else (0, false)
def greatV (u d w : Int) : Int × Bool := if gd u d ∧ gw w then (reach u d w, true) else (0, false)
def evenV (u d w day : Int) : Int × Bool := if (gd u d ∧ gw w) ∧ gw day then (min w (reach u d day), true) else (0, false)
def mornV (u d w day : Int) : Int × Bool := if (gd u d ∧ gw w) ∧ gw day then (if day = 1 then 0 else if min w (reach u d (day - 1)) = w then w else max 0 (min w (reach u d (day - 1)) - d), true) else (0, false)
def mornI (u d w day : Int) : Int := if day = 1 then 0 else if min w (reach u d (day - 1)) = w then w else max 0 (min w (reach u d (day - 1)) - d)
def dayV (u d w h : Int) : Int × Bool := if (gd u d ∧ gw w) ∧ 0 ≤ h ∧ h ≤ w then (dayH u d h, decide (0 < dayH u d h)) else (0, false)
def upL (P : Int → Bool) : Nat → Int → Int × Bool
  | 0, _ => (0, false)
  | n + 1, up => if P up = true then (up, true) else upL P n (up + 1)
def slowP (w days d up : Int) : Bool := decide (w ≤ reach up d days)
def slowV (w days d : Int) : Int × Bool := if (gw w ∧ gw days) ∧ 0 ≤ d ∧ d ≤ 1000 then upL (slowP w days d) 1000 1 else (0, false)
def downL (P : Int → Bool) : Nat → Int → Int × Bool
  | 0, _ => (0, false)
  | n + 1, x => if P x = true then (x, true) else downL P n (x - 1)
def mostP (w days u x : Int) : Bool := decide (w ≤ reach u x days)
def mostV (w days u : Int) : Int × Bool := if (gw w ∧ gw days) ∧ 1 ≤ u ∧ u ≤ 1000 then downL (mostP w days u) 1001 1000 else (0, false)
theorem e_within (a b c : Int) : impl_within.f a b c = some (decide (b ≤ a ∧ a ≤ c)) := by
  unfold impl_within.f; exact le_cases a b c
theorem e_l1In (a b c : Int) : spec_l1In.f a b c = some (decide (b ≤ a ∧ a ≤ c)) := by
  unfold spec_l1In.f; exact le_cases a b c
theorem e_iIsSnail (u d : Int) : impl_IsSnail.f u d = some (decide (gd u d)) := by
  unfold impl_IsSnail.f; simp only [e_within, Option.bind_some]
  by_cases h : 1 ≤ u ∧ u ≤ 1000 <;> by_cases h' : 0 ≤ d ∧ d ≤ 1000 <;> simp [gd, h, h'] <;> omega
theorem e_snGood (u d : Int) : spec_snGood.f u d = some (decide (gd u d)) := by
  unfold spec_snGood.f; simp only [e_l1In, Option.bind_some]
  by_cases h : 1 ≤ u ∧ u ≤ 1000 <;> by_cases h' : 0 ≤ d ∧ d ≤ 1000 <;> simp [gd, h, h'] <;> omega
theorem e_sIsSnail (u d : Int) : spec_IsSnail.f u d = some (decide (gd u d)) := by
  unfold spec_IsSnail.f; simp only [e_snGood, Option.bind_some]
theorem e_isWall (a : Int) : impl_isWall.f a = some (decide (gw a)) := by
  unfold impl_isWall.f; simp only [e_within, Option.bind_some]; rfl
theorem e_snWall (a : Int) : spec_snWall.f a = some (decide (gw a)) := by
  unfold spec_snWall.f; simp only [e_l1In, Option.bind_some]; rfl
theorem e_snDay (a : Int) : spec_snDay.f a = some (decide (gw a)) := by
  unfold spec_snDay.f; simp only [e_l1In, Option.bind_some]; rfl
theorem e_isWalled (u d a : Int) : impl_isWalled.f u d a = some (decide (gd u d ∧ gw a)) := by
  unfold impl_isWalled.f; simp only [e_iIsSnail, e_isWall, Option.bind_some]
  by_cases h : gd u d <;> by_cases h' : gw a <;> simp [h, h']
theorem e_snAsked (u d a : Int) : spec_snAsked.f u d a = some (decide (gd u d ∧ gw a)) := by
  unfold spec_snAsked.f; simp only [e_snGood, e_snWall, Option.bind_some]
  by_cases h : gd u d <;> by_cases h' : gw a <;> simp [h, h']
theorem e_reachOf (u d day : Int) (g : gd u d) (w : gw day) : impl_reachOf.f u d day = some (reach u d day) := by
  have b := reach_bd u d day g w
  unfold gd at g; unfold gw at w; unfold impl_reachOf.f; unfold reach at b ⊢
  have m := mul_bd (day - 1) (u - d)
  rw [w64 (u - d) (by omega) (by omega), w64 (day - 1) (by omega) (by omega)]
  by_cases h : u ≤ d
  · rw [if_pos h]; unfold mx
    have e : (if 0 < u - d then u - d else 0) = 0 := if_neg (by omega)
    rw [e, Int.zero_mul, w64 0 (by omega) (by omega), w64 _ (by omega) (by omega)]; simp
  · rw [if_neg h] at b ⊢; unfold mx
    have e : (if 0 < u - d then u - d else 0) = u - d := if_pos (by omega)
    have m := mul_bd (day - 1) (u - d) 999999 1000 (by omega) (by omega) (by omega) (by omega)
    rw [e, Int.mul_comm (u - d), w64 ((day - 1) * (u - d)) (by omega) (by omega), w64 _ (by omega) (by omega)]
theorem e_snEvening (u d day : Int) (g : gd u d) (w : gw day) : spec_snEvening.f u d day = some (reach u d day) := by
  have b := reach_bd u d day g w
  unfold gd at g; unfold gw at w; unfold spec_snEvening.f; unfold reach at b ⊢
  by_cases h : u ≤ d
  · rw [if_pos h, if_pos h]
  · rw [if_neg h] at b
    rw [if_neg h, if_neg h]
    have m := mul_bd (day - 1) (u - d) 999999 1000 (by omega) (by omega) (by omega) (by omega)
    rw [w64 (u - d) (by omega) (by omega), w64 (day - 1) (by omega) (by omega), w64 ((day - 1) * (u - d)) (by omega) (by omega), w64 _ (by omega) (by omega)]
theorem e_dayOfHeight (u d h : Int) (g : gd u d) (h2 : h ≤ 1000000) : impl_dayOfHeight.f u d h = some (dayH u d h) := by
  unfold gd at g; unfold impl_dayOfHeight.f dayH
  by_cases c1 : h ≤ u
  · rw [if_pos c1, if_pos c1]
  · rw [if_neg c1, if_neg c1]
    by_cases c2 : u ≤ d
    · rw [if_pos c2, if_pos c2]
    · rw [if_neg c2, if_neg c2, w64 (u - d) (by omega) (by omega), if_neg (by omega), w64 (h - u) (by omega) (by omega), w64 (h - u + (u - d)) (by omega) (by omega), w64 (h - u + (u - d) - 1) (by omega) (by omega), Int.tdiv_eq_ediv_of_nonneg (by omega)]
      have b := div_bd (h - u + (u - d) - 1) (u - d) (by omega) (by omega)
      rw [w64 ((h - u + (u - d) - 1) / (u - d)) (by omega) (by omega), w64 _ (by omega) (by omega)]
theorem e_snDays (u d h : Int) (g : gd u d) (h2 : h ≤ 1000000) (hc : u ≥ h ∨ u > d) : spec_snDays.f u d h = some (dayH u d h) := by
  unfold gd at g; unfold spec_snDays.f dayH
  by_cases c1 : h ≤ u
  · rw [if_pos c1, if_pos c1]
  · have c2 : ¬ u ≤ d := by omega
    rw [if_neg c1, if_neg c1, if_neg c2, w64 (u - d) (by omega) (by omega), if_neg (by omega), w64 (h - u) (by omega) (by omega), w64 (h - u + (u - d)) (by omega) (by omega), w64 (h - u + (u - d) - 1) (by omega) (by omega), Int.tdiv_eq_ediv_of_nonneg (by omega)]
    have b := div_bd (h - u + (u - d) - 1) (u - d) (by omega) (by omega)
    rw [w64 ((h - u + (u - d) - 1) / (u - d)) (by omega) (by omega), w64 _ (by omega) (by omega)]
theorem dayH_pos (u d h : Int) : 0 < dayH u d h ↔ (u ≥ h ∨ u > d) := by
  unfold dayH
  by_cases c1 : h ≤ u
  · rw [if_pos c1]; omega
  · rw [if_neg c1]
    by_cases c2 : u ≤ d
    · rw [if_pos c2]; omega
    · rw [if_neg c2]; have := Int.ediv_nonneg (show 0 ≤ h - u + (u - d) - 1 by omega) (show 0 ≤ u - d by omega); omega
theorem e_snCan (u d h : Int) : spec_snCan.f u d h = some (decide (0 < dayH u d h)) := by
  unfold spec_snCan.f; simp only [dayH_pos]
  by_cases c1 : u ≥ h <;> by_cases c2 : u > d <;> simp [c1, c2]
theorem e_eveningHeight (u d w day : Int) (g : gd u d) (h : gw day) : impl_eveningHeight.f u d w day = some (min w (reach u d day)) := by
  unfold impl_eveningHeight.f; rw [e_reachOf u d day g h]; simp only [Option.bind_some]; unfold mn; congr 1; omega
theorem e_l1Least (a b : Int) : spec_l1Least.f a b = some (min a b) := by
  unfold spec_l1Least.f; split <;> (congr 1; omega)
theorem e_l1Most (a b : Int) : spec_l1Most.f a b = some (max a b) := by
  unfold spec_l1Most.f; split <;> (congr 1; omega)
theorem e_iCanClimb (u d w : Int) : impl_CanClimb.f u d w = some (if gd u d ∧ gw w then (decide (0 < dayH u d w), true) else (false, false)) := by
  unfold impl_CanClimb.f; rw [e_isWalled]; simp only [Option.bind_some, decide_eq_true_eq]
  by_cases h : gd u d ∧ gw w
  · rw [if_pos h, if_pos h, e_dayOfHeight u d w h.1 (by have := h.2; unfold gw at this; omega)]; rfl
  · rw [if_neg h, if_neg h]
theorem e_sCanClimb (u d w : Int) : spec_CanClimb.f u d w = some (if gd u d ∧ gw w then (decide (0 < dayH u d w), true) else (false, false)) := by
  unfold spec_CanClimb.f; rw [e_snAsked]; simp only [Option.bind_some, decide_eq_true_eq, e_snCan]
  by_cases h : gd u d ∧ gw w
  · rw [if_pos h, if_pos h]
  · rw [if_neg h, if_neg h]
theorem e_iDaysToTop (u d w : Int) : impl_DaysToTop.f u d w = some (daysV u d w) := by
  unfold impl_DaysToTop.f daysV; rw [e_isWalled]; simp only [Option.bind_some, decide_eq_true_eq]
  by_cases h : gd u d ∧ gw w
  · rw [if_pos h, if_pos h, e_dayOfHeight u d w h.1 (by have := h.2; unfold gw at this; omega)]; rfl
  · rw [if_neg h, if_neg h]
theorem e_sDaysToTop (u d w : Int) : spec_DaysToTop.f u d w = some (daysV u d w) := by
  unfold spec_DaysToTop.f daysV; rw [e_snAsked]; simp only [Option.bind_some, decide_eq_true_eq, e_snCan]
  by_cases h : gd u d ∧ gw w
  · rw [if_pos h, if_pos h]
    by_cases c : 0 < dayH u d w
    · rw [if_pos c, e_snDays u d w h.1 (by have := h.2; unfold gw at this; omega) ((dayH_pos u d w).mp c)]; simp [c]
    · have := (dayH_bd u d w h.1 (by have := h.2; unfold gw at this; omega)).1
      have e : dayH u d w = 0 := by omega
      rw [if_neg c]; simp [e]
  · rw [if_neg h, if_neg h]
theorem e_iGreatestWall (u d w : Int) : impl_GreatestWall.f u d w = some (greatV u d w) := by
  unfold impl_GreatestWall.f greatV; rw [e_iIsSnail, e_isWall]; simp only [Option.bind_some, decide_eq_true_eq]
  by_cases h : gd u d <;> by_cases h' : gw w <;> simp only [h, h', if_true, if_false, and_self, and_true, true_and, and_false, false_and]
  rw [e_reachOf u d w h h']; rfl
theorem e_sGreatestWall (u d w : Int) : spec_GreatestWall.f u d w = some (greatV u d w) := by
  unfold spec_GreatestWall.f greatV; rw [e_snGood, e_snDay]; simp only [Option.bind_some, decide_eq_true_eq]
  by_cases h : gd u d <;> by_cases h' : gw w <;> simp only [h, h', if_true, if_false, and_self, and_true, true_and, and_false, false_and]
  rw [e_snEvening u d w h h']; rfl
theorem e_iEveningHeight (u d w day : Int) : impl_EveningHeight.f u d w day = some (evenV u d w day) := by
  unfold impl_EveningHeight.f evenV; rw [e_isWalled, e_isWall]; simp only [Option.bind_some, decide_eq_true_eq]
  by_cases h : gd u d ∧ gw w <;> by_cases h' : gw day <;> simp only [h, h', if_true, if_false, and_self, and_true, true_and, and_false, false_and]
  rw [e_eveningHeight u d w day h.1 h']; rfl
theorem e_sEveningHeight (k : Nat) (u d w day : Int) (hk : 1 ≤ k) : spec_EveningHeight.f k u d w day = some (evenV u d w day) := by
  obtain ⟨k, rfl⟩ : ∃ m, k = m + 1 := ⟨k - 1, by omega⟩
  unfold spec_EveningHeight.f evenV; rw [e_snAsked, e_snDay]; simp only [Option.bind_some, decide_eq_true_eq, spec_EveningHeight.j0]
  by_cases h : gd u d ∧ gw w <;> by_cases h' : gw day <;> simp [h, h']
  rw [e_snEvening u d day h.1 h']; simp [e_l1Least]
theorem e_iMorningHeight (k : Nat) (u d w day : Int) (hk : 1 ≤ k) : impl_MorningHeight.f k u d w day = some (mornV u d w day) := by
  obtain ⟨k, rfl⟩ : ∃ m, k = m + 1 := ⟨k - 1, by omega⟩
  unfold impl_MorningHeight.f mornV; rw [e_isWalled, e_isWall]; simp only [Option.bind_some, decide_eq_true_eq, impl_MorningHeight.j0]
  by_cases h : gd u d ∧ gw w <;> by_cases h' : gw day <;> simp [h, h']
  by_cases c : day = 1
  · simp [c]
  · have g' := h'
    unfold gw at g'
    have g1 : gw (day - 1) := by unfold gw; omega
    have b := reach_bd u d (day - 1) h.1 g1
    have g2 := h.1; have g3 := h.2; unfold gd at g2; unfold gw at g3
    rw [if_neg c, if_neg c, w64 (day - 1) (by omega) (by omega), e_eveningHeight u d w (day - 1) h.1 g1]
    simp only [Option.bind_some]
    by_cases c2 : min w (reach u d (day - 1)) = w
    · rw [if_pos c2, if_pos c2]
    · rw [if_neg c2, if_neg c2, w64 _ (by omega) (by omega)]; unfold mx; simp only [Option.some.injEq, Prod.mk.injEq, and_true]; omega
theorem e_snMorning (u d w day : Int) (h : gd u d) (h2 : gw w) (h' : gw day) : spec_snMorning.f u d w day = some (mornI u d w day) := by
  unfold spec_snMorning.f mornI
  by_cases c : day = 1
  · simp [c]
  · have g' := h'
    unfold gw at g'
    have g1 : gw (day - 1) := by unfold gw; omega
    have b := reach_bd u d (day - 1) h g1
    have g2 := h; have g3 := h2; unfold gd at g2; unfold gw at g3
    rw [if_neg c, if_neg c, w64 (day - 1) (by omega) (by omega), e_snEvening u d (day - 1) h g1]
    simp only [Option.bind_some, e_l1Least]
    by_cases c2 : min w (reach u d (day - 1)) = w
    · rw [if_pos c2, if_pos c2]
    · rw [if_neg c2, if_neg c2, w64 _ (by omega) (by omega), e_l1Most]; rfl
theorem e_sMorningHeight (u d w day : Int) : spec_MorningHeight.f u d w day = some (mornV u d w day) := by
  unfold spec_MorningHeight.f mornV; rw [e_snAsked, e_snDay]; simp only [Option.bind_some, decide_eq_true_eq]
  by_cases h : gd u d ∧ gw w <;> by_cases h' : gw day <;> simp only [h, h', if_true, if_false, and_self, and_true, true_and, and_false, false_and]
  rw [e_snMorning u d w day h.1 h.2 h']; rfl
theorem e_iDayOfHeight (u d w x : Int) : impl_DayOfHeight.f u d w x = some (dayV u d w x) := by
  unfold impl_DayOfHeight.f dayV; rw [e_isWalled, e_within]; simp only [Option.bind_some, decide_eq_true_eq]
  by_cases h : gd u d ∧ gw w
  · by_cases h' : 0 ≤ x ∧ x ≤ w
    · rw [if_pos h, if_pos h', if_pos (show (gd u d ∧ gw w) ∧ 0 ≤ x ∧ x ≤ w from ⟨h, h'⟩), e_dayOfHeight u d x h.1 (by have := h.2; unfold gw at this; omega)]; rfl
    · rw [if_pos h, if_neg h', if_neg (show ¬ ((gd u d ∧ gw w) ∧ 0 ≤ x ∧ x ≤ w) from fun z => h' z.2)]
  · rw [if_neg h, if_neg (show ¬ ((gd u d ∧ gw w) ∧ 0 ≤ x ∧ x ≤ w) from fun z => h z.1)]
theorem e_sDayOfHeight (u d w x : Int) : spec_DayOfHeight.f u d w x = some (dayV u d w x) := by
  unfold spec_DayOfHeight.f dayV; rw [e_snAsked, e_l1In]; simp only [Option.bind_some, decide_eq_true_eq, e_snCan]
  by_cases h : gd u d ∧ gw w
  · by_cases h' : 0 ≤ x ∧ x ≤ w
    · have hx : x ≤ 1000000 := by have := h.2; unfold gw at this; omega
      rw [if_pos h, if_pos h', if_pos (show (gd u d ∧ gw w) ∧ 0 ≤ x ∧ x ≤ w from ⟨h, h'⟩)]
      by_cases c : 0 < dayH u d x
      · rw [if_pos c, e_snDays u d x h.1 hx ((dayH_pos u d x).mp c)]; simp [c]
      · have := (dayH_bd u d x h.1 hx).1
        have e : dayH u d x = 0 := by omega
        rw [if_neg c]; simp [e]
    · rw [if_pos h, if_neg h', if_neg (show ¬ ((gd u d ∧ gw w) ∧ 0 ≤ x ∧ x ≤ w) from fun z => h' z.2)]
  · rw [if_neg h, if_neg (show ¬ ((gd u d ∧ gw w) ∧ 0 ≤ x ∧ x ≤ w) from fun z => h z.1)]
theorem e_sSlow_l0 (w days d : Int) (hw : gw w) (hd : gw days) (h0 : 0 ≤ d) (h1 : d ≤ 1000) : ∀ (n : Nat) (up : Int) (k : Nat), up + n = 1001 → 1 ≤ up → n < k → spec_SlowestUp.l0 k w days d up = some (upL (slowP w days d) n up) := by
  intro n
  induction n with
  | zero =>
    intro up k hu hp hk
    obtain ⟨k, rfl⟩ : ∃ m, k = m + 1 := ⟨k - 1, by omega⟩
    simp only [spec_SlowestUp.l0, upL]; rw [if_neg (by omega)]
  | succ n ih =>
    intro up k hu hp hk
    obtain ⟨k, rfl⟩ : ∃ m, k = m + 1 := ⟨k - 1, by omega⟩
    simp only [spec_SlowestUp.l0, upL]
    rw [if_pos (by omega), e_snEvening up d days (by unfold gd; omega) hd]
    simp only [Option.bind_some, slowP, decide_eq_true_eq]
    by_cases c : w ≤ reach up d days
    · rw [if_pos c, if_pos c]
    · rw [if_neg c, if_neg c, w64 _ (by omega) (by omega)]
      exact ih (up + 1) k (by omega) (by omega) (by omega)
theorem e_sSlowestUp (k : Nat) (w days d : Int) (hk : 1002 < k) : spec_SlowestUp.f k w days d = some (slowV w days d) := by
  obtain ⟨k, rfl⟩ : ∃ m, k = m + 1 := ⟨k - 1, by omega⟩
  unfold spec_SlowestUp.f slowV; rw [e_snWall, e_snDay, e_l1In]; simp only [Option.bind_some, decide_eq_true_eq, spec_SlowestUp.j0]
  by_cases h : gw w
  · by_cases h2 : gw days
    · by_cases h3 : 0 ≤ d ∧ d ≤ 1000
      · rw [if_pos h, if_pos h2, if_pos (show (gw w ∧ gw days) ∧ 0 ≤ d ∧ d ≤ 1000 from ⟨⟨h, h2⟩, h3⟩), ← e_sSlow_l0 w days d h h2 h3.1 h3.2 1000 1 k (by omega) (by omega) (by omega)]; simp [h3]
      · rw [if_pos h, if_pos h2, if_neg (show ¬ ((gw w ∧ gw days) ∧ 0 ≤ d ∧ d ≤ 1000) from fun z => h3 z.2)]; simp [h3]
    · rw [if_pos h, if_neg h2, if_neg (show ¬ ((gw w ∧ gw days) ∧ 0 ≤ d ∧ d ≤ 1000) from fun z => h2 z.1.2)]; simp
  · rw [if_neg h, if_neg (show ¬ ((gw w ∧ gw days) ∧ 0 ≤ d ∧ d ≤ 1000) from fun z => h z.1.1)]; simp
theorem e_iSlow_l0 (w days d : Int) (hw : gw w) (hd : gw days) (h0 : 0 ≤ d) (h1 : d ≤ 1000) : ∀ (n : Nat) (up : Int) (k : Nat), up + n = 1001 → 1 ≤ up → n < k → impl_SlowestUp.l0 k w days d up = some (upL (slowP w days d) n up) := by
  intro n
  induction n with
  | zero =>
    intro up k hu hp hk
    obtain ⟨k, rfl⟩ : ∃ m, k = m + 1 := ⟨k - 1, by omega⟩
    simp only [impl_SlowestUp.l0, upL]; rw [if_neg (by omega)]
  | succ n ih =>
    intro up k hu hp hk
    obtain ⟨k, rfl⟩ : ∃ m, k = m + 1 := ⟨k - 1, by omega⟩
    simp only [impl_SlowestUp.l0, upL]
    have hw' := hw; have hd' := hd; unfold gw at hw' hd'
    have q := dayH_le up d w days (by omega)
    rw [if_pos (by omega), e_dayOfHeight up d w (by unfold gd; omega) (by omega)]
    simp only [Option.bind_some, slowP, decide_eq_true_eq]
    rw [w64 (up + 1) (by omega) (by omega), ih (up + 1) k (by omega) (by omega) (by omega)]
    by_cases c : w ≤ reach up d days
    · have z := q.mpr c
      rw [if_pos c, if_pos z.1, if_pos z.2]
    · rw [if_neg c]
      by_cases z : dayH up d w > 0
      · rw [if_pos z, if_neg (fun z2 => c (q.mp ⟨z, z2⟩))]
      · rw [if_neg z]
theorem e_iSlowestUp (k : Nat) (w days d : Int) (hk : 1002 < k) : impl_SlowestUp.f k w days d = some (slowV w days d) := by
  obtain ⟨k, rfl⟩ : ∃ m, k = m + 1 := ⟨k - 1, by omega⟩
  unfold impl_SlowestUp.f slowV; rw [e_isWall, e_isWall, e_within]; simp only [Option.bind_some, decide_eq_true_eq, impl_SlowestUp.j0]
  by_cases h : gw w
  · by_cases h2 : gw days
    · by_cases h3 : 0 ≤ d ∧ d ≤ 1000
      · rw [if_pos h, if_pos h2, if_pos (show (gw w ∧ gw days) ∧ 0 ≤ d ∧ d ≤ 1000 from ⟨⟨h, h2⟩, h3⟩), ← e_iSlow_l0 w days d h h2 h3.1 h3.2 1000 1 k (by omega) (by omega) (by omega)]; simp [h3]
      · rw [if_pos h, if_pos h2, if_neg (show ¬ ((gw w ∧ gw days) ∧ 0 ≤ d ∧ d ≤ 1000) from fun z => h3 z.2)]; simp [h3]
    · rw [if_pos h, if_neg h2, if_neg (show ¬ ((gw w ∧ gw days) ∧ 0 ≤ d ∧ d ≤ 1000) from fun z => h2 z.1.2)]; simp
  · rw [if_neg h, if_neg (show ¬ ((gw w ∧ gw days) ∧ 0 ≤ d ∧ d ≤ 1000) from fun z => h z.1.1)]; simp
theorem e_sMost_l0 (w days u : Int) (hw : gw w) (hd : gw days) (h0 : 1 ≤ u) (h1 : u ≤ 1000) : ∀ (n : Nat) (x : Int) (k : Nat), x + 1 = n → x ≤ 1000 → n < k → spec_MostDown.l0 k w days u x = some (downL (mostP w days u) n x) := by
  intro n
  induction n with
  | zero =>
    intro x k hu hp hk
    obtain ⟨k, rfl⟩ : ∃ m, k = m + 1 := ⟨k - 1, by omega⟩
    simp only [spec_MostDown.l0, downL]; rw [if_neg (by omega)]
  | succ n ih =>
    intro x k hu hp hk
    obtain ⟨k, rfl⟩ : ∃ m, k = m + 1 := ⟨k - 1, by omega⟩
    simp only [spec_MostDown.l0, downL]
    rw [if_pos (by omega), e_snEvening u x days (by unfold gd; omega) hd]
    simp only [Option.bind_some, mostP, decide_eq_true_eq]
    by_cases c : w ≤ reach u x days
    · rw [if_pos c, if_pos c]
    · rw [if_neg c, if_neg c, w64 _ (by omega) (by omega)]
      exact ih (x - 1) k (by omega) (by omega) (by omega)
theorem e_sMostDown (k : Nat) (w days u : Int) (hk : 1002 < k) : spec_MostDown.f k w days u = some (mostV w days u) := by
  obtain ⟨k, rfl⟩ : ∃ m, k = m + 1 := ⟨k - 1, by omega⟩
  unfold spec_MostDown.f mostV; rw [e_snWall, e_snDay, e_l1In]; simp only [Option.bind_some, decide_eq_true_eq, spec_MostDown.j0]
  by_cases h : gw w
  · by_cases h2 : gw days
    · by_cases h3 : 1 ≤ u ∧ u ≤ 1000
      · rw [if_pos h, if_pos h2, if_pos (show (gw w ∧ gw days) ∧ 1 ≤ u ∧ u ≤ 1000 from ⟨⟨h, h2⟩, h3⟩), ← e_sMost_l0 w days u h h2 h3.1 h3.2 1001 1000 k (by omega) (by omega) (by omega)]; simp [h3]
      · rw [if_pos h, if_pos h2, if_neg (show ¬ ((gw w ∧ gw days) ∧ 1 ≤ u ∧ u ≤ 1000) from fun z => h3 z.2)]; simp [h3]
    · rw [if_pos h, if_neg h2, if_neg (show ¬ ((gw w ∧ gw days) ∧ 1 ≤ u ∧ u ≤ 1000) from fun z => h2 z.1.2)]; simp
  · rw [if_neg h, if_neg (show ¬ ((gw w ∧ gw days) ∧ 1 ≤ u ∧ u ≤ 1000) from fun z => h z.1.1)]; simp
theorem e_iMost_l0 (w days u : Int) (hw : gw w) (hd : gw days) (h0 : 1 ≤ u) (h1 : u ≤ 1000) : ∀ (n : Nat) (x : Int) (k : Nat), x + 1 = n → x ≤ 1000 → n < k → impl_MostDown.l0 k w days u x = some (downL (mostP w days u) n x) := by
  intro n
  induction n with
  | zero =>
    intro x k hu hp hk
    obtain ⟨k, rfl⟩ : ∃ m, k = m + 1 := ⟨k - 1, by omega⟩
    simp only [impl_MostDown.l0, downL]; rw [if_neg (by omega)]
  | succ n ih =>
    intro x k hu hp hk
    obtain ⟨k, rfl⟩ : ∃ m, k = m + 1 := ⟨k - 1, by omega⟩
    simp only [impl_MostDown.l0, downL]
    have hw' := hw; have hd' := hd; unfold gw at hw' hd'
    have q := dayH_le u x w days (by omega)
    rw [if_pos (by omega), e_dayOfHeight u x w (by unfold gd; omega) (by omega)]
    simp only [Option.bind_some, mostP, decide_eq_true_eq]
    rw [w64 (x - 1) (by omega) (by omega), ih (x - 1) k (by omega) (by omega) (by omega)]
    by_cases c : w ≤ reach u x days
    · have z := q.mpr c
      rw [if_pos c, if_pos z.1, if_pos z.2]
    · rw [if_neg c]
      by_cases z : dayH u x w > 0
      · rw [if_pos z, if_neg (fun z2 => c (q.mp ⟨z, z2⟩))]
      · rw [if_neg z]
theorem e_iMostDown (k : Nat) (w days u : Int) (hk : 1002 < k) : impl_MostDown.f k w days u = some (mostV w days u) := by
  obtain ⟨k, rfl⟩ : ∃ m, k = m + 1 := ⟨k - 1, by omega⟩
  unfold impl_MostDown.f mostV; rw [e_isWall, e_isWall, e_within]; simp only [Option.bind_some, decide_eq_true_eq, impl_MostDown.j0]
  by_cases h : gw w
  · by_cases h2 : gw days
    · by_cases h3 : 1 ≤ u ∧ u ≤ 1000
      · rw [if_pos h, if_pos h2, if_pos (show (gw w ∧ gw days) ∧ 1 ≤ u ∧ u ≤ 1000 from ⟨⟨h, h2⟩, h3⟩), ← e_iMost_l0 w days u h h2 h3.1 h3.2 1001 1000 k (by omega) (by omega) (by omega)]; simp [h3]
      · rw [if_pos h, if_pos h2, if_neg (show ¬ ((gw w ∧ gw days) ∧ 1 ≤ u ∧ u ≤ 1000) from fun z => h3 z.2)]; simp [h3]
    · rw [if_pos h, if_neg h2, if_neg (show ¬ ((gw w ∧ gw days) ∧ 1 ≤ u ∧ u ≤ 1000) from fun z => h2 z.1.2)]; simp
  · rw [if_neg h, if_neg (show ¬ ((gw w ∧ gw days) ∧ 1 ≤ u ∧ u ≤ 1000) from fun z => h z.1.1)]; simp

theorem round1 {k n : Nat} (h : n < k) : ∃ m, k = m + 1 ∧ n ≤ m := ⟨k - 1, by omega, by omega⟩
/-- The last day before the height is behind it for good, for a snail that comes higher. -/
def lastD (u d w h : Int) : Int := min (dayH u d w) (1 + (h - 1) / (u - d))
theorem morn_lt (u d w h day : Int) (g : gd u d) (hw : gw w) (hh : 1 ≤ h ∧ h ≤ w) (hg : u > d) (hd : 1 ≤ day) : mornI u d w day < h ↔ day ≤ lastD u d w h := by
  unfold gd at g; unfold gw at hw; unfold mornI lastD
  have hdiv : (h - 1) / (u - d) < day - 1 ↔ h - 1 < (day - 1) * (u - d) := Int.ediv_lt_iff_lt_mul (by omega)
  have hdiv0 : 0 ≤ (h - 1) / (u - d) := Int.ediv_nonneg (by omega) (by omega)
  have htop := dayH_le u d w (day - 1)
  have hp := (dayH_pos u d w).mpr (Or.inr hg)
  by_cases c : day = 1
  · subst c; rw [if_pos rfl]; omega
  · have htop := htop (by omega)
    rw [if_neg c]
    by_cases c2 : w ≤ reach u d (day - 1)
    · have := htop.mpr c2
      rw [if_pos (show min w (reach u d (day - 1)) = w by omega)]; omega
    · have t : ¬ dayH u d w ≤ day - 1 := fun z => c2 (htop.mp ⟨hp, z⟩)
      rw [if_neg (show ¬ min w (reach u d (day - 1)) = w by omega)]
      have e : reach u d (day - 1) = d + (day - 1) * (u - d) := by
        unfold reach; rw [if_neg (by omega)]
        have : (day - 1 - 1) * (u - d) = (day - 1) * (u - d) - (u - d) := by rw [Int.sub_mul, Int.one_mul]
        omega
      have hn := Int.mul_nonneg (show 0 ≤ day - 1 by omega) (show 0 ≤ u - d by omega)
      omega
theorem first_le (u d w h : Int) (g : gd u d) (hw : gw w) (hh : 1 ≤ h ∧ h ≤ w) (hg : u > d) : dayH u d h ≤ lastD u d w h := by
  unfold gd at g; unfold gw at hw; unfold lastD
  have hdiv0 : 0 ≤ (h - 1) / (u - d) := Int.ediv_nonneg (by omega) (by omega)
  have hp := (dayH_pos u d h).mpr (Or.inr hg)
  have hpw := (dayH_pos u d w).mpr (Or.inr hg)
  have h1 : dayH u d h ≤ dayH u d w := by
    have a := (dayH_le u d w (dayH u d w) (by omega)).mp ⟨hpw, Int.le_refl _⟩
    exact ((dayH_le u d h (dayH u d w) (by omega)).mpr (by omega)).2
  by_cases c : dayH u d h = 1
  · omega
  · have a : ¬ h ≤ reach u d (dayH u d h - 1) := fun z => by
      have := (dayH_le u d h (dayH u d h - 1) (by omega)).mpr z; omega
    have hdiv : dayH u d h - 1 ≤ (h - 1) / (u - d) ↔ (dayH u d h - 1) * (u - d) ≤ h - 1 := Int.le_ediv_iff_mul_le (by omega)
    have e : reach u d (dayH u d h - 1) = d + (dayH u d h - 1) * (u - d) := by
      unfold reach; rw [if_neg (by omega)]
      have : (dayH u d h - 1 - 1) * (u - d) = (dayH u d h - 1) * (u - d) - (u - d) := by rw [Int.sub_mul, Int.one_mul]
      omega
    have := hdiv.mpr (by omega)
    omega
def tpV (u d w h : Int) : Int × Bool := if (gd u d ∧ gw w) ∧ 1 ≤ h ∧ h ≤ w then (if dayH u d h = 0 then (0, true) else if dayH u d w = 0 then (0, false) else if u ≤ d then (1, true) else (lastD u d w h - dayH u d h + 1, true)) else (0, false)
theorem e_iTimesPassed (k : Nat) (u d w h : Int) (hk : 3 ≤ k) : impl_TimesPassed.f k u d w h = some (tpV u d w h) := by
  obtain ⟨k, rfl⟩ : ∃ m, k = m + 3 := ⟨k - 3, by omega⟩
  unfold impl_TimesPassed.f tpV; rw [e_isWalled, e_within]; simp only [Option.bind_some, decide_eq_true_eq, impl_TimesPassed.j0]
  by_cases c : gd u d ∧ gw w <;> by_cases c1 : 1 ≤ h ∧ h ≤ w <;> simp [c, c1]
  have hw' := c.2; unfold gw at hw'
  have g' := c.1; unfold gd at g'
  rw [e_dayOfHeight u d h c.1 (by omega), e_dayOfHeight u d w c.1 (by omega)]; simp only [Option.bind_some]
  have b1 := dayH_bd u d w c.1 (by omega)
  have b2 := dayH_bd u d h c.1 (by omega)
  by_cases d1 : dayH u d h = 0
  · rw [if_pos d1, if_pos d1]
  · rw [if_neg d1, if_neg d1]
    by_cases d2 : dayH u d w = 0
    · rw [if_pos d2, if_pos d2]
    · rw [if_neg d2, if_neg d2]
      by_cases d3 : u ≤ d
      · rw [if_pos d3, if_pos d3]
      · have q := div_bd (h - 1) (u - d) (by omega) (by omega)
        rw [if_neg d3, if_neg d3, w64 (u - d) (by omega) (by omega), if_neg (by omega), w64 (h - 1) (by omega) (by omega), Int.tdiv_eq_ediv_of_nonneg (by omega), w64 ((h - 1) / (u - d)) (by omega) (by omega), w64 (1 + _) (by omega) (by omega)]
        have e : mn (dayH u d w) (1 + (h - 1) / (u - d)) = lastD u d w h := by unfold mn lastD; omega
        have lb : lastD u d w h ≤ 1001000 ∧ 0 ≤ lastD u d w h := by unfold lastD; omega
        rw [e, w64 (lastD u d w h - dayH u d h) (by omega) (by omega), w64 _ (by omega) (by omega)]
theorem reach_bd2 (u d day : Int) (g : gd u d) (h1 : 1 ≤ day) (h2 : day ≤ 2000000) : u ≤ reach u d day ∧ reach u d day ≤ 2000001000 := by
  unfold gd at g; unfold reach
  split
  · omega
  · have := mul_bd (day - 1) (u - d) 1999999 1000 (by omega) (by omega) (by omega) (by omega)
    omega
theorem e_snEvening2 (u d day : Int) (g : gd u d) (h1 : 1 ≤ day) (h2 : day ≤ 2000000) : spec_snEvening.f u d day = some (reach u d day) := by
  have b := reach_bd2 u d day g h1 h2
  unfold gd at g; unfold spec_snEvening.f; unfold reach at b ⊢
  by_cases h : u ≤ d
  · rw [if_pos h, if_pos h]
  · rw [if_neg h] at b
    rw [if_neg h, if_neg h]
    have m := mul_bd (day - 1) (u - d) 1999999 1000 (by omega) (by omega) (by omega) (by omega)
    rw [w64 (u - d) (by omega) (by omega), w64 (day - 1) (by omega) (by omega), w64 ((day - 1) * (u - d)) (by omega) (by omega), w64 _ (by omega) (by omega)]
theorem e_snMorning2 (u d w day : Int) (h : gd u d) (h2 : gw w) (d1 : 1 ≤ day) (d2 : day ≤ 2000000) : spec_snMorning.f u d w day = some (mornI u d w day) := by
  unfold spec_snMorning.f mornI
  by_cases c : day = 1
  · simp [c]
  · have b := reach_bd2 u d (day - 1) h (by omega) (by omega)
    have g2 := h; have g3 := h2; unfold gd at g2; unfold gw at g3
    rw [if_neg c, if_neg c, w64 (day - 1) (by omega) (by omega), e_snEvening2 u d (day - 1) h (by omega) (by omega)]
    simp only [Option.bind_some, e_l1Least]
    by_cases c2 : min w (reach u d (day - 1)) = w
    · rw [if_pos c2, if_pos c2]
    · rw [if_neg c2, if_neg c2, w64 _ (by omega) (by omega), e_l1Most]; rfl
theorem e_sTp_l0 (u d w h : Int) (g : gd u d) (hw : gw w) (L : Int) (hL : L ≤ 1500000) (hm : ∀ day, 1 ≤ day → (mornI u d w day < h ↔ day ≤ L)) : ∀ (n : Nat) (day c : Int) (k : Nat), day + n = L + 1 → 1 ≤ day → 0 ≤ c → c ≤ day → n < k → spec_TimesPassed.l0 k w h c day u d = some (c + n, true) := by
  intro n
  induction n with
  | zero =>
    intro day c k h1 h2 h3 h4 hk
    obtain ⟨k, rfl, hk⟩ := round1 hk
    simp only [spec_TimesPassed.l0]
    have := hm day h2
    rw [e_snMorning2 u d w day g hw h2 (by omega)]; simp only [Option.bind_some]
    rw [if_neg (fun z => by have := this.mp z; omega)]; simp
  | succ n ih =>
    intro day c k h1 h2 h3 h4 hk
    obtain ⟨k, rfl, hk⟩ := round1 hk
    simp only [spec_TimesPassed.l0]
    have := hm day h2
    rw [e_snMorning2 u d w day g hw h2 (by omega)]; simp only [Option.bind_some]
    rw [if_pos (this.mpr (by omega)), w64 (c + 1) (by omega) (by omega), w64 (day + 1) (by omega) (by omega), ih (day + 1) (c + 1) k (by omega) (by omega) (by omega) (by omega) (by omega)]
    congr 2; omega
theorem e_sTimesPassed (k : Nat) (u d w h : Int) (hk : 3000000 ≤ k) : spec_TimesPassed.f k u d w h = some (tpV u d w h) := by
  obtain ⟨k, rfl⟩ : ∃ m, k = m + 3 := ⟨k - 3, by omega⟩
  unfold spec_TimesPassed.f tpV; rw [e_snAsked, e_l1In]; simp only [Option.bind_some, decide_eq_true_eq, spec_TimesPassed.j0, e_snCan]
  by_cases c : gd u d ∧ gw w
  · by_cases c1 : 1 ≤ h ∧ h ≤ w
    · have hw' := c.2; unfold gw at hw'
      have g' := c.1; unfold gd at g'
      have b1 := dayH_bd u d w c.1 (by omega)
      have b2 := dayH_bd u d h c.1 (by omega)
      have p1 := dayH_pos u d h
      have p2 := dayH_pos u d w
      rw [if_pos c, if_pos (show (gd u d ∧ gw w) ∧ 1 ≤ h ∧ h ≤ w from ⟨c, c1⟩)]
      simp only [c1, and_self, decide_true, Bool.not_true, Bool.false_eq_true, if_false]
      by_cases d1 : 0 < dayH u d h
      · rw [if_pos d1, if_neg (show ¬ dayH u d h = 0 by omega)]
        by_cases d2 : u ≤ d
        · rw [if_pos (show d ≥ u from d2)]
          by_cases d3 : u < w
          · have e : dayH u d w = 0 := by
              have : ¬ 0 < dayH u d w := fun z => by have := p2.mp z; omega
              omega
            simp only [spec_TimesPassed.j1, d3, decide_true, if_true]
            rw [if_pos e]
          · have e : dayH u d w = 1 := by unfold dayH; rw [if_pos (by omega)]
            have e2 : dayH u d h = 1 := by unfold dayH; rw [if_pos (by omega)]
            simp only [spec_TimesPassed.j1, d3, decide_false, Bool.false_eq_true, if_false]
            rw [if_neg (show ¬ dayH u d w = 0 by omega), if_pos d2, e_snDays u d h c.1 (by omega) (Or.inl (by omega))]
            simp only [Option.bind_some]
            rw [e2, e_sTp_l0 u d w h c.1 c.2 1 (by omega) ?_ 1 1 0 (k + 1) (by omega) (by omega) (by omega) (by omega) (by omega)]
            · rfl
            · intro day hd
              unfold mornI
              by_cases c5 : day = 1
              · rw [if_pos c5]; omega
              · have : reach u d (day - 1) = u := by unfold reach; rw [if_pos d2]
                rw [if_neg c5, this, if_pos (by omega)]; omega
        · have hg : u > d := by omega
          have hp := p2.mpr (Or.inr hg)
          have f := first_le u d w h c.1 c.2 c1 hg
          have lb : lastD u d w h ≤ 1001000 := by unfold lastD; omega
          rw [if_neg (show ¬ d ≥ u from d2), if_neg (show ¬ dayH u d w = 0 by omega), if_neg d2]
          simp only [spec_TimesPassed.j1, Bool.false_eq_true, if_false]
          rw [e_snDays u d h c.1 (by omega) (Or.inr hg)]
          simp only [Option.bind_some]
          rw [e_sTp_l0 u d w h c.1 c.2 (lastD u d w h) (by omega) (fun day hd => morn_lt u d w h day c.1 c.2 c1 hg hd) (lastD u d w h + 1 - dayH u d h).toNat (dayH u d h) 0 (k + 1) (by omega) (by omega) (by omega) (by omega) (by omega)]
          congr 2; omega
      · rw [if_neg d1, if_pos (show dayH u d h = 0 by omega)]
    · simp [c, c1]
  · simp [c]
theorem son1 (u : Nat) : strOfNums [((u : Nat) : Int)] = bs [UInt8.ofNat u] := rfl
theorem tdiv10n (n : Nat) : Int.tdiv (n : Int) 10 = ((n / 10 : Nat) : Int) := by rw [Int.tdiv_eq_ediv_of_nonneg (by omega)]; omega
theorem tmod10n (n : Nat) : Int.tmod (n : Int) 10 = ((n % 10 : Nat) : Int) := by rw [Int.tmod_eq_emod_of_nonneg (by omega)]; omega
theorem digits_le (u : Nat) (h : u ≤ 1000000000000) : (Lib.decDigits u).length ≤ 21 := by
  have := Lib.itoa_length_le (u : Int) (by omega) (by omega)
  rwa [Lib.itoa_nonneg] at this
theorem e_l1Num_k : ∀ (k n : Nat), n < 10 ^ k → n ≤ 1000000000000 → spec_l1Num.f (k + 1) (n : Int) = some (bs (Lib.decDigits n))
  | k, n, h, hb => by
    unfold spec_l1Num.f
    by_cases c : n < 10
    · have e : (wrap64 (48 + (n : Int))) % 256 = ((48 + n : Nat) : Int) := by unfold wrap64; omega
      rw [if_pos (by omega), e, son1, Lib.decDigits, dif_pos c]
    · cases k with
      | zero => simp at h; omega
      | succ k =>
        have e1 : wrap64 (Int.tdiv (n : Int) 10) = ((n / 10 : Nat) : Int) := by rw [tdiv10n]; unfold wrap64; omega
        have e2 : (wrap64 (48 + Int.tmod (n : Int) 10)) % 256 = ((48 + n % 10 : Nat) : Int) := by rw [tmod10n]; unfold wrap64; omega
        have h10 : n / 10 < 10 ^ k := by rw [Nat.pow_succ] at h; omega
        have hd := digits_le (n / 10) (by omega)
        rw [if_neg (by omega), e1, e_l1Num_k k (n / 10) h10 (by omega), e2]
        simp only [Option.bind_some]
        rw [son1, if_pos (by rw [bs_size, bs_size]; simp only [List.length_cons, List.length_nil]; omega), bs_append]
        conv => rhs; rw [Lib.decDigits, dif_neg c]
theorem e_l1Num (k n : Nat) (hk : 13 < k) (hn : n ≤ 1000000000) : spec_l1Num.f k (n : Int) = some (bs (Lib.decDigits n)) := by
  obtain ⟨q, rfl⟩ : ∃ q, k = q + 1 := ⟨k - 1, by omega⟩
  refine e_l1Num_k q n (Nat.lt_of_lt_of_le (show n < 10 ^ 13 by omega) (Nat.pow_le_pow_right (by omega) (by omega))) (by omega)
theorem e_l1Split_l0 (L : List UInt8) (hL : L.length ≤ 100000000) (c : UInt8) : ∀ (n i fr k : Nat) (done : List ByteArray), i + n = L.length → fr ≤ i → n < k → done.length ≤ i →
    spec_l1Split.l0 k (bs L) (c.toNat : Int) done (fr : Int) (i : Int) = some (done ++ (spla c ((L.drop fr).take (i - fr)) (L.drop i)).map bs) := by
  intro n
  induction n with
  | zero =>
    intro i fr k done hi hf hk hd
    obtain ⟨k, rfl⟩ : ∃ q, k = q + 1 := ⟨k - 1, by omega⟩
    have hdr : L.drop i = [] := List.drop_eq_nil_of_le (by omega)
    unfold spec_l1Split.l0
    rw [bs_size, if_neg (by omega), if_pos (by omega), if_pos (by omega), if_pos (by omega), hdr, bs_extract]
    simp only [spla, List.map_cons, List.map_nil, Int.toNat_natCast]
    rw [show L.length = i by omega]
  | succ n ih =>
    intro i fr k done hi hf hk hd
    obtain ⟨k, rfl⟩ : ∃ q, k = q + 1 := ⟨k - 1, by omega⟩
    have hil : i < L.length := by omega
    have hb := bt_bs L (i : Int) (by simpa using hil)
    simp only [Int.toNat_natCast] at hb
    have hdr : L.drop i = L[i] :: L.drop (i + 1) := List.drop_eq_getElem_cons hil
    have hw : wrap64 ((i : Int) + 1) = ((i + 1 : Nat) : Int) := by unfold wrap64; omega
    unfold spec_l1Split.l0
    rw [bs_size, if_pos (by omega), if_pos (by omega), hb, hw, hdr]
    by_cases e : L[i] = c
    · rw [if_pos (by rw [e]), if_pos (by omega), if_pos (by omega), if_pos (by omega), if_pos (by omega), bs_extract, ih (i + 1) (i + 1) k _ (by omega) (by omega) (by omega) (by simp; omega)]
      simp only [spla, if_pos e, Int.toNat_natCast, Nat.sub_self, List.take_zero, List.map_cons, List.append_assoc, List.cons_append, List.nil_append]
    · rw [if_neg (by intro z; exact e (UInt8.toNat_inj.1 (by omega))), ih (i + 1) fr k _ (by omega) (by omega) (by omega) (by omega)]
      have ht : (L.drop fr).take (i + 1 - fr) = (L.drop fr).take (i - fr) ++ [L[i]] := by
        rw [show i + 1 - fr = (i - fr) + 1 by omega, List.take_succ_eq_append_getElem (by rw [List.length_drop]; omega)]
        congr 2
        rw [List.getElem_drop]
        congr 1
        omega
      rw [ht]
      simp only [spla, if_neg e]
theorem e_l1Split (k : Nat) (L : List UInt8) (c : UInt8) (hL : L.length ≤ 100000000) (hk : L.length < k) : spec_l1Split.f k (bs L) (c.toNat : Int) = some ((spl c L).map bs) := by
  have := e_l1Split_l0 L hL c L.length 0 0 k [] (by omega) (by omega) hk (by simp)
  simpa [spec_l1Split.f, spl] using this
def dgs (p : List UInt8) : Prop := ∀ x ∈ p, 48 ≤ x.toNat ∧ x.toNat ≤ 57
instance (p : List UInt8) : Decidable (dgs p) := by unfold dgs; infer_instance
def dstep (a : Nat) (x : UInt8) : Nat := 10 * a + (x.toNat - 48)
def numL (acc : Nat) (l : List UInt8) : Nat := l.foldl dstep acc
theorem numL_nil (acc : Nat) : numL acc [] = acc := rfl
theorem numL_cons (acc : Nat) (x : UInt8) (r : List UInt8) : numL acc (x :: r) = numL (10 * acc + (x.toNat - 48)) r := by
  unfold numL
  rw [List.foldl_cons]
  unfold dstep
  exact Eq.refl _
theorem numL_snoc (c : UInt8) (q : List UInt8) (acc : Nat) : numL acc (q ++ [c]) = 10 * numL acc q + (c.toNat - 48) := by
  unfold numL
  rw [List.foldl_append, List.foldl_cons, List.foldl_nil]
  exact dstep.eq_1 _ _
theorem numL_dec (u : Nat) : numL 0 (Lib.decDigits u) = u := by
  induction u using Nat.strongRecOn with
  | _ u ih =>
    rw [Lib.decDigits]
    split
    · rename_i h
      have := ofn u h
      rw [numL_cons, numL_nil]
      omega
    · rename_i h
      have := ofn (u % 10) (by omega)
      rw [numL_snoc, ih (u / 10) (by omega)]
      omega
theorem dec_num (p : List UInt8) : ∀ (n : Nat), p.length = n + 1 → dgs p → (p.head? ≠ some 48 ∨ n = 0) → Lib.decDigits (numL 0 p) = p := by
  intro n
  induction n generalizing p with
  | zero =>
    intro h hd _
    match p, h with
    | [c], _ =>
      have hc := hd c (by simp)
      rw [numL_cons, numL_nil]
      rw [Lib.decDigits, dif_pos (by omega)]
      congr 1
      apply UInt8.toNat_inj.1
      rw [ofn _ (by omega)]
      omega
  | succ n ih =>
    intro h hd hh
    have hh : p.head? ≠ some 48 := hh.resolve_right (by omega)
    obtain ⟨q, c, rfl⟩ : ∃ q c, p = q ++ [c] := ⟨p.dropLast, p.getLast (by intro e; subst e; simp at h), (List.dropLast_concat_getLast _).symm⟩
    have hq : q.length = n + 1 := by simp at h; omega
    have hc := hd c (by simp)
    have hqh : q.head? ≠ some 48 := by
      cases q with
      | nil => simp at hq
      | cons a b => simpa using hh
    have i := ih q hq (fun x hx => hd x (by simp [hx])) (.inl hqh)
    rw [numL_snoc]
    have hz : numL 0 q ≠ 0 := by
      intro e
      rw [e, Lib.decDigits_one (by omega)] at i
      rw [← i] at hqh
      exact hqh rfl
    rw [Lib.decDigits, dif_neg (by omega)]
    have e1 : (10 * numL 0 q + (c.toNat - 48)) / 10 = numL 0 q := by omega
    have e2 : (10 * numL 0 q + (c.toNat - 48)) % 10 = c.toNat - 48 := by omega
    rw [e1, e2, i]
    congr 2
    apply UInt8.toNat_inj.1
    rw [ofn _ (by omega)]
    omega
theorem dec_len : ∀ (k u : Nat), u < 10 ^ (k + 1) → (Lib.decDigits u).length ≤ k + 1
  | k, u, h => by
    rw [Lib.decDigits]
    split
    · simp
    · rename_i hu
      cases k with
      | zero => simp at h; omega
      | succ k =>
        have := dec_len k (u / 10) (by rw [Nat.pow_succ] at h; omega)
        simp only [List.length_append, List.length_cons, List.length_nil]
        omega
theorem dec_pos (u : Nat) : 1 ≤ (Lib.decDigits u).length := by
  have := dig_ne u
  cases h : Lib.decDigits u with
  | nil => exact absurd h this
  | cons a b => simp
theorem dec_long : ∀ (n v : Nat), 10 ^ n ≤ v → n + 1 ≤ (Lib.decDigits v).length
  | 0, v, _ => dec_pos v
  | n + 1, v, hv => by
    rw [Nat.pow_succ] at hv
    have h1 : 1 ≤ 10 ^ n := Nat.one_le_pow _ _ (by omega)
    rw [Lib.decDigits, dif_neg (by omega)]
    have := dec_long n (v / 10) (by omega)
    simp only [List.length_append, List.length_cons, List.length_nil]
    omega
theorem dec_head (u : Nat) (h : 10 ≤ u) : (Lib.decDigits u).head? ≠ some 48 := by
  induction u using Nat.strongRecOn with
  | _ u ih =>
    rw [Lib.decDigits, dif_neg (by omega)]
    have hne := dig_ne (u / 10)
    cases hd : Lib.decDigits (u / 10) with
    | nil => exact absurd hd hne
    | cons a b =>
      by_cases h2 : 10 ≤ u / 10
      · have := ih (u / 10) (by omega) h2
        rw [hd] at this
        simpa using this
      · rw [Lib.decDigits_one (by omega)] at hd
        have e : a = UInt8.ofNat (48 + u / 10) := by have := (List.cons.inj hd).1; exact this.symm
        intro z
        simp only [List.cons_append, List.head?_cons, Option.some.injEq] at z
        rw [e] at z
        have := ofn (u / 10) (by omega)
        rw [z] at this
        have h48 : (48 : UInt8).toNat = 48 := rfl
        omega
theorem e_l1Read_l0 (L : List UInt8) (hL : L.length ≤ 6) : ∀ (n i k acc : Nat), i + n = L.length → n < k → acc < 10 ^ i → spec_l1Read.l0 k (bs L) (acc : Int) (i : Int) = some (if dgs (L.drop i) then (numL acc (L.drop i) : Int) else -1) := by
  intro n
  induction n with
  | zero =>
    intro i k acc hi hk ha
    obtain ⟨k, rfl⟩ : ∃ q, k = q + 1 := ⟨k - 1, by omega⟩
    have hdr : L.drop i = [] := List.drop_eq_nil_of_le (by omega)
    unfold spec_l1Read.l0
    rw [bs_size, if_neg (by omega), hdr, if_pos (by intro x hx; simp at hx)]
    rfl
  | succ n ih =>
    intro i k acc hi hk ha
    obtain ⟨k, rfl⟩ : ∃ q, k = q + 1 := ⟨k - 1, by omega⟩
    have hil : i < L.length := by omega
    have hb := bt_bs L (i : Int) (by simpa using hil)
    simp only [Int.toNat_natCast] at hb
    have hdr : L.drop i = L[i] :: L.drop (i + 1) := List.drop_eq_getElem_cons hil
    have hw : wrap64 ((i : Int) + 1) = ((i + 1 : Nat) : Int) := by unfold wrap64; omega
    have ha5 : acc < 100000 := Nat.lt_of_lt_of_le ha (Nat.pow_le_pow_right (n := 10) (by decide) (show i ≤ 5 by omega))
    unfold spec_l1Read.l0
    rw [bs_size, if_pos (by omega), if_pos (by omega), hb, hw, hdr]
    by_cases c1 : (L[i].toNat : Int) < 48
    · rw [if_pos c1, if_neg (by intro z; have := z L[i] List.mem_cons_self; omega)]
    · by_cases c2 : (L[i].toNat : Int) > 57
      · rw [if_neg c1, if_pos c2, if_neg (by intro z; have := z L[i] List.mem_cons_self; omega)]
      · have e : wrap64 (wrap64 (10 * (acc : Int)) + ((L[i].toNat : Int) - 48) % 256) = ((10 * acc + (L[i].toNat - 48) : Nat) : Int) := by
          clear ih hdr hb hw ha
          generalize L[i].toNat = d at *
          rw [show wrap64 (10 * (acc : Int)) = 10 * (acc : Int) by unfold wrap64; omega, show ((d : Int) - 48) % 256 = (d : Int) - 48 by omega]
          unfold wrap64; omega
        have hpw : 10 * acc + (L[i].toNat - 48) < 10 ^ (i + 1) := by
          rw [Nat.pow_succ]
          generalize 10 ^ i = t at ha
          clear ih hdr hb hw
          omega
        rw [if_neg c1, if_neg c2, e, ih (i + 1) k _ (by omega) (by omega) hpw]
        have hiff : dgs (L[i] :: L.drop (i + 1)) ↔ dgs (L.drop (i + 1)) := ⟨fun z x hx => z x (List.mem_cons_of_mem _ hx), fun z x hx => by rcases List.mem_cons.1 hx with rfl | hx; exact ⟨by omega, by omega⟩; exact z x hx⟩
        simp only [hiff, numL_cons]
/-- The number read, or -1. -/
theorem e_l1Read (k : Nat) (p : List UInt8) (hk : 20 < k) : (∃ u : Nat, u ≤ 999999 ∧ p = Lib.decDigits u ∧ spec_l1Read.f k (bs p) = some (u : Int)) ∨ ((∀ u : Nat, u ≤ 999999 → p ≠ Lib.decDigits u) ∧ spec_l1Read.f k (bs p) = some (-1)) := by
  obtain ⟨k, rfl⟩ : ∃ q, k = q + 1 := ⟨k - 1, by omega⟩
  have hsmall : ∀ u : Nat, u ≤ 999999 → (Lib.decDigits u).length ≤ 6 := fun u hu => dec_len 5 u (by omega)
  have hin : spec_l1In.f (p.length : Int) 1 6 = some (decide (1 ≤ p.length ∧ p.length ≤ 6)) := by
    unfold spec_l1In.f
    by_cases c1 : 1 ≤ p.length
    · rw [if_pos (by omega)]
      congr 1
      rw [decide_eq_decide]
      omega
    · rw [if_neg (by omega), decide_eq_false (by omega)]
  have key1 : ¬ (1 ≤ p.length ∧ p.length ≤ 6) → spec_l1Read.f (k + 1) (bs p) = some (-1) := by
    intro h
    unfold spec_l1Read.f
    rw [bs_size, hin, decide_eq_false h]
    rfl
  have hl0 : p.length ≤ 6 → spec_l1Read.l0 k (bs p) 0 0 = some (if dgs p then (numL 0 p : Int) else -1) := by
    intro h
    have hl := e_l1Read_l0 p h p.length 0 k 0 (by omega) (by omega) (by simp)
    rw [List.drop_zero] at hl
    exact hl
  have key2 : (h : 1 ≤ p.length ∧ p.length ≤ 6) → spec_l1Read.f (k + 1) (bs p) = if p.head? = some 48 ∧ 1 < p.length then some (-1) else some (if dgs p then (numL 0 p : Int) else -1) := by
    intro h
    have hb : bt (bs p) 0 = ((p[0]'(by omega)).toNat : Int) := bt_bs p 0 (by show 0 < p.length; omega)
    have hh : p.head? = some (p[0]'(by omega)) := by rw [List.head?_eq_getElem?, List.getElem?_eq_getElem (by omega)]
    have hj : ∀ b : Bool, spec_l1Read.j0 (k + 1) (bs p) b = if b = true then some (-1) else some (if dgs p then (numL 0 p : Int) else -1) := by
      intro b
      simp only [spec_l1Read.j0, hl0 h.2]
    have h48 : (48 : UInt8).toNat = 48 := rfl
    unfold spec_l1Read.f
    rw [bs_size, hin, decide_eq_true h]
    simp only [Option.bind_some, if_true]
    rw [if_pos (by omega), hb, hj, hj, hh]
    by_cases q : p.head? = some 48 ∧ 1 < p.length
    · have z : p[0]'(by omega) = 48 := by rw [hh] at q; exact Option.some.inj q.1
      rw [← hh, if_pos q, if_pos (by rw [z]; rfl), if_pos (decide_eq_true (by omega))]
    · rw [← hh, if_neg q]
      by_cases z : p[0]'(by omega) = 48
      · have y : ¬ 1 < p.length := fun y => q ⟨by rw [hh, z], y⟩
        rw [if_pos (by rw [z]; rfl), if_neg (by rw [decide_eq_false (by omega)]; simp)]
      · have z2 : ¬ ((p[0]'(by omega)).toNat : Int) = 48 := by intro w; apply z; apply UInt8.toNat_inj.1; omega
        rw [if_neg z2, if_neg (by simp)]
  by_cases ex : ∃ u : Nat, u ≤ 999999 ∧ p = Lib.decDigits u
  · obtain ⟨u, hu, rfl⟩ := ex
    refine .inl ⟨u, hu, rfl, ?_⟩
    rw [key2 ⟨dec_pos u, hsmall u hu⟩]
    have hz : ¬ ((Lib.decDigits u).head? = some 48 ∧ 1 < (Lib.decDigits u).length) := by
      intro ⟨z1, z2⟩
      by_cases h10 : 10 ≤ u
      · exact dec_head u h10 z1
      · rw [Lib.decDigits_one (by omega)] at z2
        simp at z2
    rw [if_neg hz, if_pos (show dgs (Lib.decDigits u) from dig_le u), numL_dec]
  · refine .inr ⟨fun u hu e => ex ⟨u, hu, e⟩, ?_⟩
    by_cases hl : 1 ≤ p.length ∧ p.length ≤ 6
    · rw [key2 hl]
      split
      · rfl
      · rename_i hz
        split
        · rename_i hd
          exfalso
          have e := dec_num p (p.length - 1) (by omega) hd (by
            by_cases h1 : p.length - 1 = 0
            · exact .inr h1
            · exact .inl (fun q => hz ⟨q, by omega⟩))
          refine ex ⟨numL 0 p, ?_, e.symm⟩
          apply Classical.byContradiction
          intro hb
          have := dec_long 6 (numL 0 p) (by omega)
          rw [e] at this
          omega
        · rfl
    · exact key1 hl
theorem e_snText (k : Nat) (u d : Int) (hk : 13 < k) (hu : 0 ≤ u ∧ u ≤ 1000000000) (hd : 0 ≤ d ∧ d ≤ 1000000000) : spec_snText.f k u d = some (bs (j2 u d [45])) := by
  obtain ⟨m, rfl⟩ : ∃ m : Nat, u = m := ⟨u.toNat, by omega⟩
  obtain ⟨n, rfl⟩ : ∃ n : Nat, d = n := ⟨d.toNat, by omega⟩
  have l1 := digits_le m (by omega)
  have l2 := digits_le n (by omega)
  unfold spec_snText.f
  rw [e_l1Num k m hk (by omega), e_l1Num k n hk (by omega)]
  simp only [Option.bind_some]
  have b45 : (⟨#[45]⟩ : ByteArray) = bs [45] := rfl
  rw [if_pos (by rw [bs_size]; omega), b45, bs_append, if_pos (by rw [bs_size, bs_size]; simp only [List.length_append, List.length_cons, List.length_nil]; omega), bs_append, j2_eq, Lib.itoa_nonneg, Lib.itoa_nonneg, List.append_assoc]
def gSn (u d : Int) : Prop := (1 ≤ u ∧ u ≤ 1000) ∧ (0 ≤ d ∧ d ≤ 1000)
instance (u d : Int) : Decidable (gSn u d) := by unfold gSn; infer_instance
theorem gSn_iff (u d : Int) : gSn u d ↔ (1 ≤ u ∧ u ≤ 1000) ∧ (0 ≤ d ∧ d ≤ 1000) := Iff.rfl
theorem e_snGood' (u d : Int) : spec_snGood.f u d = some (decide (gSn u d)) := by
  have hg := gSn_iff u d
  unfold spec_snGood.f spec_l1In.f
  by_cases h1 : u ≥ 1
  · rw [if_pos h1]
    simp only [Option.bind_some, decide_eq_true_eq]
    by_cases h2 : u ≤ 1000
    · rw [if_pos h2]
      by_cases h3 : d ≥ 0
      · rw [if_pos h3]
        simp only [Option.bind_some]
        congr 1
        rw [decide_eq_decide, hg]
        omega
      · rw [if_neg h3]
        simp only [Option.bind_some]
        rw [decide_eq_false (by rw [hg]; omega)]
    · rw [if_neg h2, decide_eq_false (by rw [hg]; omega)]
  · rw [if_neg h1]
    simp only [Option.bind_some, Bool.false_eq_true, if_false]
    rw [decide_eq_false (by rw [hg]; omega)]
theorem e_IsSnail' (u d : Int) : impl_IsSnail.f u d = some (decide (gSn u d)) := by
  have hg := gSn_iff u d
  unfold impl_IsSnail.f impl_within.f
  by_cases h1 : u ≥ 1
  · rw [if_pos h1]
    simp only [Option.bind_some, decide_eq_true_eq]
    by_cases h2 : u ≤ 1000
    · rw [if_pos h2]
      by_cases h3 : d ≥ 0
      · rw [if_pos h3]
        simp only [Option.bind_some]
        congr 1
        rw [decide_eq_decide, hg]
        omega
      · rw [if_neg h3]
        simp only [Option.bind_some]
        rw [decide_eq_false (by rw [hg]; omega)]
    · rw [if_neg h2, decide_eq_false (by rw [hg]; omega)]
  · rw [if_neg h1]
    simp only [Option.bind_some, Bool.false_eq_true, if_false]
    rw [decide_eq_false (by rw [hg]; omega)]
theorem itoa_len2 (n : Int) (k : Nat) (h0 : 0 ≤ n) (h : n.natAbs < 10 ^ (k + 1)) : (Lib.itoa n).length ≤ k + 1 := by
  unfold Lib.itoa
  rw [if_neg (by omega)]
  have := dec_len k n.toNat (by rw [show n.toNat = n.natAbs by omega]; exact h)
  omega
theorem psRes_no {r : Option (List Int)} (h : ∀ p q, r = some [p, q] → ¬ gSn p q) : psRes r = (0, 0, false) := by
  unfold psRes
  split
  · rename_i p q
    rw [e_IsSnail', if_neg]
    rw [decide_eq_false (h p q rfl)]
    simp
  · rfl
theorem e_ParseSnail (k : Nat) (s : ByteArray) (hs : s.size ≤ 2000000) (hk : 3000000 < k) : spec_ParseSnail.f k s = some (psRes (rdN (spl 45 s.data.toList))) := by
  have hsz : s.data.toList.length = s.size := (Lib.size_eq s).symm
  have h45 : ((45 : UInt8).toNat : Int) = 45 := rfl
  have hsp := e_l1Split k s.data.toList 45 (by omega) (by omega)
  rw [h45, bs_of] at hsp
  obtain ⟨k, rfl⟩ : ∃ q, k = q + 1 := ⟨k - 1, by omega⟩
  have j0t : ∀ t, spec_ParseSnail.j0 (k + 1) s t true = some (0, 0, false) := fun t => rfl
  unfold spec_ParseSnail.f
  rw [hsp]
  simp only [Option.bind_some, List.length_map]
  have hjoin := spl_join 45 s.data.toList
  -- an answer of the program's own is a short text
  have short : ∀ p q, rdN (spl 45 s.data.toList) = some [p, q] → gSn p q → s.size ≤ 9 ∧ s.data.toList = Lib.itoa p ++ ([45] ++ Lib.itoa q) := by
    intro p q hr hg
    obtain ⟨e, _, _⟩ := rdN_two hr
    rw [e] at hjoin
    have ej : Lib.join [Lib.itoa p, Lib.itoa q] [45] = Lib.itoa p ++ ([45] ++ Lib.itoa q) := by simp [Lib.join, List.intercalate]
    rw [ej] at hjoin
    have l1 := itoa_len2 p 3 (by unfold gSn at hg; omega) (by unfold gSn at hg; omega)
    have l2 := itoa_len2 q 3 (by unfold gSn at hg; omega) (by unfold gSn at hg; omega)
    refine ⟨?_, hjoin.symm⟩
    rw [← hsz, ← hjoin]
    simp only [List.length_append, List.length_cons, List.length_nil]
    omega
  by_cases c9 : (s.size : Int) > 9
  · rw [if_pos c9, j0t, psRes_no]
    intro p q hr hg
    have := (short p q hr hg).1
    omega
  · rw [if_neg c9]
    by_cases c2 : (spl 45 s.data.toList).length = 2
    · obtain ⟨a, b, hab⟩ : ∃ a b, spl 45 s.data.toList = [a, b] := by
        match hq : spl 45 s.data.toList, c2 with
        | [a, b], _ => exact ⟨a, b, rfl⟩
      have hne : (((spl 45 s.data.toList).length : Int) != 2) = false := by rw [c2]; rfl
      rw [hne, hab]
      have r0 : rdOf ByteArray.empty ([a, b].map bs) 0 = bs a := rfl
      have r1 : rdOf ByteArray.empty ([a, b].map bs) 1 = bs b := rfl
      have hl2 : ((([a, b].map bs).length : Nat) : Int) = 2 := rfl
      simp only [spec_ParseSnail.j0, Bool.false_eq_true, if_false]
      rw [hl2, if_pos (by decide), r0, r1]
      simp only [show ((1 : Int) < 2) = True from eq_true (by decide), if_true]
      rcases e_l1Read k a (by omega) with ⟨u, hu, rfl, h1⟩ | ⟨hn, h1⟩
      · rcases e_l1Read k b (by omega) with ⟨v, hv, rfl, h2⟩ | ⟨hn2, h2⟩
        · rw [h1, h2]
          simp only [Option.bind_some]
          have hr : rdN [Lib.decDigits u, Lib.decDigits v] = some [(u : Int), (v : Int)] := by
            have := rdN_pair (u : Int) (v : Int) (by omega) (by omega)
            rwa [Lib.itoa_nonneg, Lib.itoa_nonneg] at this
          rw [hr, e_snGood']
          simp only [Option.bind_some, decide_eq_true_eq]
          by_cases hg : gSn (u : Int) (v : Int)
          · have hx := (short (u : Int) (v : Int) (by rw [hab]; exact hr) hg).2
            rw [if_pos hg, e_snText k _ _ (by omega) (by omega) (by omega)]
            simp only [Option.bind_some]
            have ht : (bs (j2 (u : Int) (v : Int) [45])).toList = s.toList := by
              rw [Lib.toList_data, Lib.toList_data, bs_data, j2_eq, hx]
            rw [if_pos ht]
            simp only [psRes]
            rw [e_IsSnail', if_pos (by rw [decide_eq_true hg])]
          · rw [if_neg hg, psRes_no]
            intro p q e
            simp only [Option.some.injEq, List.cons.injEq, and_true] at e
            rw [← e.1, ← e.2]
            exact hg
        · rw [h1, h2]
          simp only [Option.bind_some]
          rw [e_snGood']
          simp only [Option.bind_some, decide_eq_true_eq]
          rw [if_neg (by unfold gSn; omega), psRes_no]
          intro p q hr hg
          obtain ⟨e, _, _⟩ := rdN_two hr
          have e2 := (List.cons.inj (List.cons.inj e).2).1
          refine hn2 q.toNat (by unfold gSn at hg; omega) ?_
          rw [e2]
          have : q = (q.toNat : Int) := by unfold gSn at hg; omega
          conv => lhs; rw [this]
          exact Lib.itoa_nonneg _
      · obtain ⟨v, h2⟩ : ∃ v, spec_l1Read.f k (bs b) = some v := by
          rcases e_l1Read k b (by omega) with ⟨v, hv, _, h2⟩ | ⟨_, h2⟩
          · exact ⟨_, h2⟩
          · exact ⟨_, h2⟩
        rw [h1, h2]
        simp only [Option.bind_some]
        rw [e_snGood']
        simp only [Option.bind_some, decide_eq_true_eq]
        rw [if_neg (by unfold gSn; omega), psRes_no]
        intro p q hr hg
        obtain ⟨e, _, _⟩ := rdN_two hr
        have e2 := (List.cons.inj e).1
        refine hn p.toNat (by unfold gSn at hg; omega) ?_
        rw [e2]
        have : p = (p.toNat : Int) := by unfold gSn at hg; omega
        conv => lhs; rw [this]
        exact Lib.itoa_nonneg _
    · have hne : (((spl 45 s.data.toList).length : Int) != 2) = true := by
        rw [bne_iff_ne]; omega
      rw [hne, j0t, psRes_no]
      intro p q hr hg
      have := rdN_len hr
      simp only [List.length_cons, List.length_nil] at this
      omega

theorem k_ok (u d w day : Int) (g : gd u d) (hw : gw w) (hd : gw day) :
    0 ≤ mornI u d w day ∧ mornI u d w day ≤ min w (reach u d day) ∧ min w (reach u d day) ≤ w ∧ min w (reach u d day) ≤ reach u d day ∧ (min w (reach u d day) = w ↔ (0 < dayH u d w ∧ dayH u d w ≤ day)) ∧
    (mornI u d w day < w → min w (reach u d day) ≠ w → min w (reach u d day) = mornI u d w day + u) := by
  have hb := reach_bd u d day g hd
  have hl := dayH_le u d w day (by unfold gw at hd; omega)
  unfold gd at g; unfold gw at hw hd; unfold mornI
  have q : min w (reach u d day) = w ↔ w ≤ reach u d day := by omega
  refine ⟨?_, ?_, by omega, by omega, q.trans hl.symm, ?_⟩
  · split
    · omega
    · split <;> omega
  · split
    · omega
    · rename_i hne
      have e1 : reach u d day = reach u d (day - 1) + (if u ≤ d then 0 else u - d) := by
        unfold reach
        split
        · omega
        · have : (day - 1) * (u - d) = (day - 1 - 1) * (u - d) + (u - d) := by rw [Int.sub_mul (day - 1) 1, Int.one_mul]; omega
          omega
      have e0 : u ≤ reach u d (day - 1) := by
        unfold reach
        split
        · omega
        · have := Int.mul_nonneg (show 0 ≤ day - 1 - 1 by omega) (show 0 ≤ u - d by omega); omega
      split at e1 <;> split <;> omega
  · intro h1 h2
    have h3 : reach u d day < w := by omega
    split at h1
    · rename_i h; subst h
      rw [if_pos rfl]
      have : reach u d 1 = u := by unfold reach; split <;> omega
      omega
    · rename_i hne
      rw [if_neg hne]
      have e1 : reach u d day = reach u d (day - 1) + (if u ≤ d then 0 else u - d) := by
        unfold reach
        split
        · omega
        · have : (day - 1) * (u - d) = (day - 1 - 1) * (u - d) + (u - d) := by rw [Int.sub_mul (day - 1) 1, Int.one_mul]; omega
          omega
      have e0 : u ≤ reach u d (day - 1) := by
        unfold reach
        split
        · omega
        · have := Int.mul_nonneg (show 0 ≤ day - 1 - 1 by omega) (show 0 ≤ u - d by omega); omega
      have e2 : u ≤ d → reach u d day = u ∧ reach u d (day - 1) = u := fun z => by unfold reach; rw [if_pos z, if_pos z]; exact ⟨rfl, rfl⟩
      by_cases c : u ≤ d
      · have := e2 c
        rw [if_pos c] at e1
        rw [if_neg (by omega)]; omega
      · rw [if_neg c] at e1
        rw [if_neg (by omega)]; omega
theorem k_next (u d w day : Int) (g : gd u d) (hw : gw w) (hd : gw day) (h : day < 1000000) :
    (min w (reach u d day) = w → mornI u d w (day + 1) = w) ∧ (min w (reach u d day) < w → (mornI u d w (day + 1) = min w (reach u d day) - d ∨ mornI u d w (day + 1) = 0) ∧ min w (reach u d day) - d ≤ mornI u d w (day + 1)) := by
  unfold gw at hd; unfold mornI
  rw [if_neg (show ¬ day + 1 = 1 by omega), show day + 1 - 1 = day by omega]
  split <;> omega
theorem k_first (u d w h : Int) (g : gd u d) (hw : gw w) (hh : 0 ≤ h ∧ h ≤ w) (hp : 0 < dayH u d h) :
    gw (dayH u d h) ∧ h ≤ min w (reach u d (dayH u d h)) ∧ (1 < dayH u d h → gw (dayH u d h - 1) ∧ min w (reach u d (dayH u d h - 1)) < h) := by
  have a := (dayH_le u d h (dayH u d h) (by omega)).mp ⟨hp, Int.le_refl _⟩
  have b : dayH u d h ≤ 1000000 := by
    have hb := hw
    unfold gw at hb; unfold gd at g
    have q : h ≤ reach u d 1000000 ∨ ¬ h ≤ reach u d 1000000 := by omega
    rcases q with q | q
    · exact ((dayH_le u d h 1000000 (by omega)).mpr q).2
    · exfalso
      apply q
      unfold dayH at hp
      unfold reach
      by_cases c : u ≤ d
      · rw [if_pos c]
        by_cases c2 : h ≤ u
        · exact c2
        · rw [if_neg c2, if_pos c] at hp; omega
      · rw [if_neg c]
        have := Int.mul_le_mul_of_nonneg_left (show (1 : Int) ≤ u - d by omega) (show (0 : Int) ≤ 1000000 - 1 by omega)
        omega
  refine ⟨⟨by omega, b⟩, by omega, fun h1 => ⟨⟨by omega, by omega⟩, ?_⟩⟩
  have c : ¬ h ≤ reach u d (dayH u d h - 1) := fun z => by
    have := (dayH_le u d h (dayH u d h - 1) (by omega)).mpr z; omega
  omega
theorem k_times (u d w h : Int) (g : gd u d) (hw : gw w) (hh : 0 ≤ h ∧ h ≤ w) (hp : 0 < dayH u d h) (h0 : 0 < h) (ht : (tpV u d w h).2 = true) : 1 ≤ (tpV u d w h).1 := by
  unfold tpV at ht ⊢
  rw [if_pos ⟨⟨g, hw⟩, by omega, hh.2⟩, if_neg (by omega)] at ht ⊢
  by_cases c : dayH u d w = 0
  · rw [if_pos c] at ht; simp at ht
  · rw [if_neg c] at ht ⊢
    by_cases c2 : u ≤ d
    · rw [if_pos c2]; simp
    · rw [if_neg c2]
      have := first_le u d w h g hw (by omega) (by omega)
      simp only; omega
theorem k_never (u d w h : Int) (ht : (tpV u d w h).2 = true) (he : (dayV u d w h).2 = false) : (tpV u d w h).1 = 0 := by
  unfold tpV at ht ⊢
  unfold dayV at he
  by_cases c : (gd u d ∧ gw w) ∧ 1 ≤ h ∧ h ≤ w
  · rw [if_pos c]
    rw [if_pos (show (gd u d ∧ gw w) ∧ 0 ≤ h ∧ h ≤ w from ⟨c.1, by omega, c.2.2⟩)] at he
    have hn : ¬ 0 < dayH u d h := by simpa using he
    have hb := (dayH_bd u d h c.1.1 (by have := c.1.2; unfold gw at this; omega)).1
    rw [if_pos (by omega)]
  · rw [if_neg c] at ht; simp at ht
theorem upL_spec (P : Int → Bool) : ∀ (n : Nat) (up : Int), (upL P n up).2 = true → up ≤ (upL P n up).1 ∧ (upL P n up).1 < up + n ∧ P (upL P n up).1 = true ∧ ∀ x, up ≤ x → x < (upL P n up).1 → P x = false := by
  intro n
  induction n with
  | zero => intro up h; simp [upL] at h
  | succ n ih =>
    intro up h
    unfold upL at h ⊢
    by_cases c : P up = true
    · rw [if_pos c]; exact ⟨by simp, by simp only; omega, c, fun x h1 h2 => by simp only at h2; omega⟩
    · rw [if_neg c] at h ⊢
      obtain ⟨a, b, e, f⟩ := ih (up + 1) h
      refine ⟨by omega, by omega, e, fun x h1 h2 => ?_⟩
      by_cases z : x = up
      · subst z; simpa using c
      · exact f x (by omega) h2
theorem downL_spec (P : Int → Bool) : ∀ (n : Nat) (x : Int), (downL P n x).2 = true → (downL P n x).1 ≤ x ∧ x < (downL P n x).1 + n ∧ P (downL P n x).1 = true ∧ ∀ y, (downL P n x).1 < y → y ≤ x → P y = false := by
  intro n
  induction n with
  | zero => intro x h; simp [downL] at h
  | succ n ih =>
    intro x h
    unfold downL at h ⊢
    by_cases c : P x = true
    · rw [if_pos c]; exact ⟨by simp, by simp only; omega, c, fun y h1 h2 => by simp only at h1; omega⟩
    · rw [if_neg c] at h ⊢
      obtain ⟨a, b, e, f⟩ := ih (x - 1) h
      refine ⟨by omega, by omega, e, fun y h1 h2 => ?_⟩
      by_cases z : y = x
      · subst z; simpa using c
      · exact f y h1 (by omega)
theorem k_slow (w days d : Int) (h : (slowV w days d).2 = true) :
    gw w ∧ gd (slowV w days d).1 d ∧ (0 < dayH (slowV w days d).1 d w ∧ dayH (slowV w days d).1 d w ≤ days) ∧ (1 < (slowV w days d).1 → gd ((slowV w days d).1 - 1) d ∧ ¬ (0 < dayH ((slowV w days d).1 - 1) d w ∧ dayH ((slowV w days d).1 - 1) d w ≤ days)) := by
  unfold slowV at h ⊢
  by_cases c : (gw w ∧ gw days) ∧ 0 ≤ d ∧ d ≤ 1000
  · rw [if_pos c] at h ⊢
    obtain ⟨⟨hw, hd⟩, h0, h1⟩ := c
    obtain ⟨a, b, e, f⟩ := upL_spec _ 1000 1 h
    generalize (upL (slowP w days d) 1000 1).1 = S at *
    unfold gw at hd
    refine ⟨hw, ⟨a, by omega, h0, h1⟩, (dayH_le S d w days hd.1).mpr (by unfold slowP at e; simpa using e), fun h2 => ⟨⟨by omega, by omega, h0, h1⟩, fun z => ?_⟩⟩
    have k := f (S - 1) (by omega) (by omega)
    have q := (dayH_le (S - 1) d w days hd.1).mp z
    unfold slowP at k
    simp at k; omega
  · rw [if_neg c] at h; simp at h
theorem k_most (w days u : Int) (h : (mostV w days u).2 = true) :
    gw w ∧ gd u (mostV w days u).1 ∧ (0 < dayH u (mostV w days u).1 w ∧ dayH u (mostV w days u).1 w ≤ days) ∧ ((mostV w days u).1 < 1000 → gd u ((mostV w days u).1 + 1) ∧ ¬ (0 < dayH u ((mostV w days u).1 + 1) w ∧ dayH u ((mostV w days u).1 + 1) w ≤ days)) := by
  unfold mostV at h ⊢
  by_cases c : (gw w ∧ gw days) ∧ 1 ≤ u ∧ u ≤ 1000
  · rw [if_pos c] at h ⊢
    obtain ⟨⟨hw, hd⟩, h0, h1⟩ := c
    obtain ⟨a, b, e, f⟩ := downL_spec _ 1001 1000 h
    generalize (downL (mostP w days u) 1001 1000).1 = S at *
    unfold gw at hd
    refine ⟨hw, ⟨h0, h1, by omega, by omega⟩, (dayH_le u S w days hd.1).mpr (by unfold mostP at e; simpa using e), fun h2 => ⟨⟨h0, h1, by omega, by omega⟩, fun z => ?_⟩⟩
    have k := f (S + 1) (by omega) (by omega)
    have q := (dayH_le u (S + 1) w days hd.1).mp z
    unfold mostP at k
    simp at k; omega
  · rw [if_neg c] at h; simp at h
def mornI' (u d w day : Int) : Int := if (gd u d ∧ gw w) ∧ gw day then mornI u d w day else 0
def evenI (u d w day : Int) : Int := if (gd u d ∧ gw w) ∧ gw day then min w (reach u d day) else 0
def daysI (u d w : Int) : Int := if gd u d ∧ gw w then dayH u d w else 0
def greatI (u d w : Int) : Int := if gd u d ∧ gw w then reach u d w else 0
theorem mornV_eq (u d w day : Int) : mornV u d w day = (mornI' u d w day, decide ((gd u d ∧ gw w) ∧ gw day)) := by
  unfold mornV mornI' mornI
  by_cases c : (gd u d ∧ gw w) ∧ gw day
  · rw [if_pos c, if_pos c, decide_eq_true c]
  · rw [if_neg c, if_neg c, decide_eq_false c]
theorem evenV_eq (u d w day : Int) : evenV u d w day = (evenI u d w day, decide ((gd u d ∧ gw w) ∧ gw day)) := by
  unfold evenV evenI
  by_cases c : (gd u d ∧ gw w) ∧ gw day
  · rw [if_pos c, if_pos c, decide_eq_true c]
  · rw [if_neg c, if_neg c, decide_eq_false c]
theorem daysV_eq (u d w : Int) : daysV u d w = (daysI u d w, decide ((gd u d ∧ gw w) ∧ 0 < dayH u d w)) := by
  unfold daysV daysI
  by_cases c : gd u d ∧ gw w
  · rw [if_pos c, if_pos c]
    by_cases h : 0 < dayH u d w
    · rw [decide_eq_true h, decide_eq_true ⟨c, h⟩]
    · rw [decide_eq_false h, decide_eq_false (fun z => h z.2)]
  · rw [if_neg c, if_neg c, decide_eq_false (fun z => c z.1)]
theorem greatV_eq (u d w : Int) : greatV u d w = (greatI u d w, decide (gd u d ∧ gw w)) := by
  unfold greatV greatI
  by_cases c : gd u d ∧ gw w
  · rw [if_pos c, if_pos c, decide_eq_true c]
  · rw [if_neg c, if_neg c, decide_eq_false c]
theorem canV_eq (u d w : Int) : (if gd u d ∧ gw w then (decide (0 < dayH u d w), true) else (false, false)) = (decide ((gd u d ∧ gw w) ∧ 0 < dayH u d w), decide (gd u d ∧ gw w)) := by
  by_cases c : gd u d ∧ gw w
  · rw [if_pos c, decide_eq_true c]
    by_cases h : 0 < dayH u d w
    · rw [decide_eq_true h, decide_eq_true ⟨c, h⟩]
    · rw [decide_eq_false h, decide_eq_false (fun z => h z.2)]
  · rw [if_neg c, decide_eq_false c, decide_eq_false (fun z => c z.1)]

theorem toB {g : Nat} {args : Array Value} {W : World} {v : Value} (h : Calls Tryz.prog g args W fun e w' => e = .returned v ∧ Drawn0 W w') : Calls Tryz.prog g args W fun e w' => e = .returned v ∧ Below W.heap.size W w' := h.mono fun _ _ h => ⟨h.1, h.2.below⟩
theorem gd_gSn (u d : Int) : gSn u d ↔ gd u d := by unfold gSn gd; omega
theorem snail_pw (u d : Int) (g : gd u d) : psRes (rdN (spl 45 (sText u d))) = (u, d, true) := by
  have g' := g
  unfold gd at g'
  have e : spl 45 (sText u d) = [Lib.itoa u, Lib.itoa d] := by
    unfold sText j2
    refine spl_of_join 45 _ (by simp) (fun p hp => ?_)
    simp only [List.mem_cons, List.not_mem_nil, or_false] at hp
    rcases hp with rfl | rfl
    · exact itoa_no u 45 (by decide) (.inr (by omega))
    · exact itoa_no d 45 (by decide) (.inr (by omega))
  rw [e, rdN_pair u d (by omega) (by omega)]
  unfold psRes
  simp only
  rw [if_pos (by rw [e_IsSnail', decide_eq_true ((gd_gSn u d).mpr g)])]
theorem pw_snail (s : ByteArray) (p q : Int) (h : psRes (rdN (spl 45 s.data.toList)) = (p, q, true)) : gd p q ∧ bs (sText p q) = s := by
  unfold psRes at h
  split at h
  · rename_i a b hr
    by_cases c : impl_IsSnail.f a b = some true
    · rw [if_pos c] at h
      simp only [Prod.mk.injEq, and_true] at h
      obtain ⟨rfl, rfl⟩ := h
      rw [e_IsSnail'] at c
      refine ⟨(gd_gSn _ _).mp (of_decide_eq_true (Option.some.inj c)), ?_⟩
      have e := (rdN_two hr).1
      have j := spl_join 45 s.data.toList
      rw [e] at j
      unfold sText j2
      rw [j]
      exact bs_of s
    · rw [if_neg c] at h; simp at h
  · simp at h
theorem st_all (N : Nat) (hN : 1000 < N) (u d : Int) : ∃ txt : ByteArray, (gd u d → txt = bs (sText u d)) ∧ AnT 16 #[.agg #[.int .i64 u, .int .i64 d]] (.tuple #[.string txt, .bool (decide (gd u d))]) ∧ An 17 #[.agg #[.int .i64 u, .int .i64 d]] (.tuple #[.string txt, .bool (decide (gd u d))]) := by
  by_cases c : gd u d
  · have c' := (gd_gSn u d).mpr c
    have hb : (-1000000000 ≤ u ∧ u ≤ 1000000000) ∧ (-1000000000 ≤ d ∧ d ≤ 1000000000) ∧ 0 ≤ u ∧ 0 ≤ d := by unfold gd at c; omega
    rw [decide_eq_true c]
    refine ⟨bs (sText u d), fun _ => rfl, fun W hT => stext.yes u d hb.1 hb.2.1 W (by rw [e_IsSnail', decide_eq_true c']) hT.one, fun W => ?_⟩
    have h : spec_SnailText.f N u d = some (bs (sText u d), true) := by
      unfold spec_SnailText.f
      rw [e_snGood', decide_eq_true c', e_snText N u d (by omega) (by omega) (by omega)]
      rfl
    first | exact spec_SnailText.calls N _ _ _ _ W h | exact toB (spec_SnailText.calls N _ _ _ _ W h)
  · have c' : ¬ gSn u d := fun z => c ((gd_gSn u d).mp z)
    rw [decide_eq_false c]
    refine ⟨⟨#[]⟩, fun h => absurd h c, fun W hT => stext.no u d W (by rw [e_IsSnail', decide_eq_false c']), fun W => ?_⟩
    have h : spec_SnailText.f N u d = some (⟨#[]⟩, false) := by
      unfold spec_SnailText.f
      rw [e_snGood', decide_eq_false c']
      rfl
    first | exact spec_SnailText.calls N _ _ _ _ W h | exact toB (spec_SnailText.calls N _ _ _ _ W h)
theorem an_eh (u d w day : Int) (v : Int × Bool) (h : evenV u d w day = v) : An 8 #[.agg #[.int .i64 u, .int .i64 d], .int .i64 w, .int .i64 day] (.tuple #[.int .i64 v.1, .bool v.2]) := fun W => by
  have e := e_iEveningHeight u d w day
  rw [h] at e
  first | exact impl_EveningHeight.calls _ _ _ _ _ _ W e | exact toB (impl_EveningHeight.calls _ _ _ _ _ _ W e)
theorem an_dt (u d w : Int) (v : Int × Bool) (h : daysV u d w = v) : An 10 #[.agg #[.int .i64 u, .int .i64 d], .int .i64 w] (.tuple #[.int .i64 v.1, .bool v.2]) := fun W => by
  have e := e_iDaysToTop u d w
  rw [h] at e
  first | exact impl_DaysToTop.calls _ _ _ _ _ W e | exact toB (impl_DaysToTop.calls _ _ _ _ _ W e)
theorem an_mh (N : Nat) (hN : 1000 < N) (u d w day : Int) (v : Int × Bool) (h : mornV u d w day = v) : An 6 #[.agg #[.int .i64 u, .int .i64 d], .int .i64 w, .int .i64 day] (.tuple #[.int .i64 v.1, .bool v.2]) := fun W => by
  have e := e_iMorningHeight N u d w day (by omega)
  rw [h] at e
  first | exact impl_MorningHeight.calls N _ _ _ _ _ _ W e | exact toB (impl_MorningHeight.calls N _ _ _ _ _ _ W e)
theorem c_all (N : Nat) (hN : 900000000 < N) (u d wall day : Int) : COwes u d wall day := by
  obtain ⟨txt, t1, t2, t3⟩ := st_all N (by omega) u d
  refine ⟨mornI' u d wall day, evenI u d wall day, daysI u d wall, greatI u d day, txt, decide ((gd u d ∧ gw wall) ∧ gw day), decide ((gd u d ∧ gw wall) ∧ 0 < dayH u d wall), decide (gd u d ∧ gw wall), decide ((gd u d ∧ gw wall) ∧ 0 < dayH u d wall), decide (gd u d ∧ gw day), decide (gd u d),
    an_mh N (by omega) u d wall day _ (mornV_eq u d wall day), fun W => ?_, an_eh u d wall day _ (evenV_eq u d wall day), fun W => ?_, an_dt u d wall _ (daysV_eq u d wall), fun W => ?_, fun W => ?_, fun W => ?_, fun W => ?_, fun W => ?_, t2, t3, fun W => ?_, fun W => ?_, ?_, fun h => ?_, fun h => ?_⟩
  · have e := e_sMorningHeight u d wall day
    rw [mornV_eq] at e
    first | exact spec_MorningHeight.calls _ _ _ _ _ _ W e | exact toB (spec_MorningHeight.calls _ _ _ _ _ _ W e)
  · have e := e_sEveningHeight N u d wall day (by omega)
    rw [evenV_eq] at e
    first | exact spec_EveningHeight.calls N _ _ _ _ _ _ W e | exact toB (spec_EveningHeight.calls N _ _ _ _ _ _ W e)
  · have e := e_sDaysToTop u d wall
    rw [daysV_eq] at e
    first | exact spec_DaysToTop.calls _ _ _ _ _ W e | exact toB (spec_DaysToTop.calls _ _ _ _ _ W e)
  · have e := e_iCanClimb u d wall
    rw [canV_eq] at e
    first | exact impl_CanClimb.calls _ _ _ _ _ W e | exact toB (impl_CanClimb.calls _ _ _ _ _ W e)
  · have e := e_sCanClimb u d wall
    rw [canV_eq] at e
    first | exact spec_CanClimb.calls _ _ _ _ _ W e | exact toB (spec_CanClimb.calls _ _ _ _ _ W e)
  · have e := e_iGreatestWall u d day
    rw [greatV_eq] at e
    first | exact impl_GreatestWall.calls _ _ _ _ _ W e | exact toB (impl_GreatestWall.calls _ _ _ _ _ W e)
  · have e := e_sGreatestWall u d day
    rw [greatV_eq] at e
    first | exact spec_GreatestWall.calls _ _ _ _ _ W e | exact toB (spec_GreatestWall.calls _ _ _ _ _ W e)
  · have e := e_iIsSnail u d
    first | exact impl_IsSnail.calls _ _ _ W e | exact toB (impl_IsSnail.calls _ _ _ W e)
  · have e := e_sIsSnail u d
    first | exact spec_IsSnail.calls _ _ _ W e | exact toB (spec_IsSnail.calls _ _ _ W e)
  · by_cases c : gd u d ∧ gw wall <;> simp [c]
  · obtain ⟨⟨g, hw⟩, hd⟩ := of_decide_eq_true h
    refine ⟨decide_eq_true ⟨g, hw⟩, decide_eq_true ⟨g, hd⟩, ?_⟩
    obtain ⟨k1, k2, k3, k4, k5, k6⟩ := k_ok u d wall day g hw hd
    have hb := reach_bd u d day g hd
    have nx := k_next u d wall day g hw hd
    have gg := g
    have ww := hw
    have dd := hd
    unfold gd at gg
    unfold gw at ww dd
    unfold mornI' evenI daysI greatI
    rw [if_pos (show (gd u d ∧ gw wall) ∧ gw day from ⟨⟨g, hw⟩, hd⟩), if_pos (show (gd u d ∧ gw wall) ∧ gw day from ⟨⟨g, hw⟩, hd⟩), if_pos (show gd u d ∧ gw wall from ⟨g, hw⟩), if_pos (show gd u d ∧ gw day from ⟨g, hd⟩)]
    have et : decide ((gd u d ∧ gw wall) ∧ 0 < dayH u d wall) = true ↔ 0 < dayH u d wall := by simp [g, hw]
    refine ⟨⟨⟨by omega, by omega⟩, ⟨by omega, by omega⟩, ww, dd⟩, k1, k2, k3, k4, k5.trans (and_congr et.symm Iff.rfl), k6, fun hlt => ?_⟩
    have hd' : gw (day + 1) := ⟨by omega, by omega⟩
    have nx := nx hlt
    exact ⟨mornI u d wall (day + 1), an_mh N (by omega) u d wall (day + 1) (mornI u d wall (day + 1), true) (by unfold mornV mornI; rw [if_pos ⟨⟨g, hw⟩, hd'⟩]), nx.1, nx.2⟩
  · have g := of_decide_eq_true h
    have e := t1 g
    subst e
    intro W hT
    have hl := j2_len u d (by unfold gd at g; omega) (by unfold gd at g; omega) [45] (by simp)
    exact ps.calls (bs (sText u d)) (by rw [bs_size]; unfold sText; omega) W hT u d true (by rw [bs_data]; exact snail_pw u d g)
theorem d_all (N : Nat) (hN : 900000000 < N) (u d w h : Int) : DOwes u d w h := by
  refine ⟨(dayV u d w h).1, (tpV u d w h).1, (dayV u d w h).2, (tpV u d w h).2, fun W => ?_, fun W => ?_, fun W => ?_, fun W => ?_, fun he => ?_, k_never u d w h⟩
  · have e := e_iDayOfHeight u d w h
    first | exact impl_DayOfHeight.calls _ _ _ _ _ _ W e | exact toB (impl_DayOfHeight.calls _ _ _ _ _ _ W e)
  · have e := e_sDayOfHeight u d w h
    first | exact spec_DayOfHeight.calls _ _ _ _ _ _ W e | exact toB (spec_DayOfHeight.calls _ _ _ _ _ _ W e)
  · have e := e_iTimesPassed N u d w h (by omega)
    first | exact impl_TimesPassed.calls N _ _ _ _ _ _ W e | exact toB (impl_TimesPassed.calls N _ _ _ _ _ _ W e)
  · have e := e_sTimesPassed N u d w h (by omega)
    first | exact spec_TimesPassed.calls N _ _ _ _ _ _ W e | exact toB (spec_TimesPassed.calls N _ _ _ _ _ _ W e)
  · have kt := fun g hw hh hp h0 => k_times u d w h g hw hh hp h0
    unfold dayV at he ⊢
    by_cases c : (gd u d ∧ gw w) ∧ 0 ≤ h ∧ h ≤ w
    · rw [if_pos c] at he ⊢
      obtain ⟨⟨g, hw⟩, hh⟩ := c
      have hp : 0 < dayH u d h := by simpa using he
      obtain ⟨q1, q2, q3⟩ := k_first u d w h g hw hh hp
      refine ⟨min w (reach u d (dayH u d h)), an_eh u d w (dayH u d h) (min w (reach u d (dayH u d h)), true) (by unfold evenV; rw [if_pos ⟨⟨g, hw⟩, q1⟩]), q2, q1, fun h1 => ?_, fun h0 h2 => kt g hw hh hp h0 h2⟩
      obtain ⟨q4, q5⟩ := q3 h1
      have q1' := q1
      unfold gw at q1'
      refine ⟨min w (reach u d (dayH u d h - 1)), ?_, q5⟩
      exact an_eh u d w (dayH u d h - 1) (min w (reach u d (dayH u d h - 1)), true) (by unfold evenV; rw [if_pos ⟨⟨g, hw⟩, q4⟩])
    · rw [if_neg c] at he; simp at he
theorem days_of (u d w : Int) (g : gd u d) (hw : gw w) : daysV u d w = (dayH u d w, decide (0 < dayH u d w)) := by unfold daysV; rw [if_pos ⟨g, hw⟩]
theorem s_all (N : Nat) (hN : 900000000 < N) (w days down : Int) : SOwes w days down := by
  refine ⟨(slowV w days down).1, (slowV w days down).2, fun W => ?_, fun W => ?_, fun h => ?_⟩
  · have e := e_iSlowestUp N w days down (by omega)
    first | exact impl_SlowestUp.calls N _ _ _ _ _ W e | exact toB (impl_SlowestUp.calls N _ _ _ _ _ W e)
  · have e := e_sSlowestUp N w days down (by omega)
    first | exact spec_SlowestUp.calls N _ _ _ _ _ W e | exact toB (spec_SlowestUp.calls N _ _ _ _ _ W e)
  · obtain ⟨hw, g, q, r⟩ := k_slow w days down h
    generalize (slowV w days down).1 = S at *
    refine ⟨dayH S down w, an_dt S down w (dayH S down w, true) (by rw [days_of S down w g hw, decide_eq_true q.1]), q.2, ⟨g.1, g.2.1⟩, fun h1 => ?_⟩
    obtain ⟨g', r'⟩ := r h1
    refine ⟨dayH (S - 1) down w, decide (0 < dayH (S - 1) down w), ?_, fun hd => ?_⟩
    · exact an_dt (S - 1) down w (_, _) (days_of (S - 1) down w g' hw)
    · have := of_decide_eq_true hd; omega
theorem m_all (N : Nat) (hN : 900000000 < N) (w days up : Int) : MOwes w days up := by
  refine ⟨(mostV w days up).1, (mostV w days up).2, fun W => ?_, fun W => ?_, fun h => ?_⟩
  · have e := e_iMostDown N w days up (by omega)
    first | exact impl_MostDown.calls N _ _ _ _ _ W e | exact toB (impl_MostDown.calls N _ _ _ _ _ W e)
  · have e := e_sMostDown N w days up (by omega)
    first | exact spec_MostDown.calls N _ _ _ _ _ W e | exact toB (spec_MostDown.calls N _ _ _ _ _ W e)
  · obtain ⟨hw, g, q, r⟩ := k_most w days up h
    generalize (mostV w days up).1 = S at *
    refine ⟨dayH up S w, an_dt up S w (dayH up S w, true) (by rw [days_of up S w g hw, decide_eq_true q.1]), q.2, ⟨g.2.2.1, g.2.2.2⟩, fun h1 => ?_⟩
    obtain ⟨g', r'⟩ := r h1
    refine ⟨dayH up (S + 1) w, decide (0 < dayH up (S + 1) w), ?_, fun hd => ?_⟩
    · exact an_dt up (S + 1) w (_, _) (days_of up (S + 1) w g' hw)
    · have := of_decide_eq_true hd; omega
theorem p_all (N : Nat) (hN : 900000000 < N) (t : ByteArray) (hw : t.size ≤ 1000) : POwes t := by
  have hS := e_ParseSnail N t (by omega) (by omega)
  obtain ⟨⟨p, q, ok⟩, hr⟩ : ∃ r, psRes (rdN (spl 45 t.data.toList)) = r := ⟨_, rfl⟩
  rw [hr] at hS
  refine ⟨p, q, ok, fun W hT => ps.calls t (by omega) W hT p q ok hr, fun W => ?_, fun h => ?_⟩
  · first | exact spec_ParseSnail.calls N _ _ _ _ W hS | exact toB (spec_ParseSnail.calls N _ _ _ _ W hS)
  · subst h
    obtain ⟨g, e⟩ := pw_snail t p q hr
    subst e
    obtain ⟨txt, t1, t2, _⟩ := st_all N (by omega) p q
    rw [t1 g, decide_eq_true g] at t2
    exact t2
theorem sn_text (u d : Int) (h1 : 0 ≤ u ∧ u ≤ 1000) (h2 : 0 ≤ d ∧ d ≤ 1000) : ∃ s, spec_snText.f 200 u d = some s ∧ s.size ≤ 900 := by
  refine ⟨_, e_snText 200 u d (by omega) (by omega) (by omega), ?_⟩
  have hl := j2_len u d (by omega) (by omega) [45] (by simp)
  rw [bs_size]; omega
theorem bigF (Ac Am : Option Addr) (cc cm : Nat) (lc lm : List Int) (h : (lc.length : Int) + (lm.length : Int) ≤ 1048576) (W : World) (hr1 : Kd.C (Kd.int .u8) W Ac lc.length lc) (hc1 : lc.length ≤ cc) (hr2 : Kd.C (Kd.int .u8) W Am lm.length lm) (hc2 : lm.length ≤ cm) : Calls Tryz.prog 4 #[.slice Ac lc.length cc, .slice Am lm.length cm] W fun e w' => e = .returned (.bool false) ∧ Below W.heap.size W w' := by
  have e : laws_big.f lc lm = some false := by
    unfold laws_big.f
    rw [w64 _ (by omega) (by omega)]
    first | (rw [if_neg (by omega)]; simp; omega) | (simp; omega)
  exact (laws_big.calls Ac cc lc Am cm lm false W hr1 hc1 hr2 hc2 e).mono (fun e w' h => ⟨h.1, h.2.below⟩)
theorem bigT (Ac Am : Option Addr) (cc cm : Nat) (lc lm : List Int) (h : ¬ (lc.length : Int) + (lm.length : Int) ≤ 1048576) (hm1 : lc.length ≤ 1000000000000000) (hm2 : lm.length ≤ 1000000000000000) (W : World) (hr1 : Kd.C (Kd.int .u8) W Ac lc.length lc) (hc1 : lc.length ≤ cc) (hr2 : Kd.C (Kd.int .u8) W Am lm.length lm) (hc2 : lm.length ≤ cm) : Calls Tryz.prog 4 #[.slice Ac lc.length cc, .slice Am lm.length cm] W fun e w' => e = .returned (.bool true) ∧ Below W.heap.size W w' := by
  have e : laws_big.f lc lm = some true := by
    unfold laws_big.f
    by_cases c : (lc.length : Int) > 1048576
    · rw [if_pos c]
    · rw [if_neg c, w64 _ (by omega) (by omega)]; simp; omega
  exact (laws_big.calls Ac cc lc Am cm lm true W hr1 hc1 hr2 hc2 e).mono (fun e w' h => ⟨h.1, h.2.below⟩)
set_option maxHeartbeats 2000000 in
set_option maxRecDepth 100000 in
theorem law_bigT (Ac Am : Option Addr) (cc cm : Nat) (lc lm : List Int) (w0 : World) (hb : Calls Tryz.prog 4 #[.slice Ac lc.length cc, .slice Am lm.length cm] w0 fun e w' => e = .returned (.bool true) ∧ Below w0.heap.size w0 w') :
    Calls Tryz.prog 3 #[.slice Ac lc.length cc, .slice Am lm.length cm] w0 fun e w' => e = .returned (.bool true) ∧ Below w0.heap.size w0 w' := by
  have HB := Aside0.mk hb
  clear hb
  go_enter Tryz.func3, Tryz.ntmps3
  go_wp2_with (go_at_call 4; (with_reducible refine HB.out.mono ?_); rintro e w1 ⟨rfl, h1⟩; have H1 := Aside0.mk h1; clear h1)
  go_ret
  exact ⟨rfl, H1.out⟩
theorem code8 (l : List Int) (hw : ∀ x ∈ l, (Lit.int .u8 x).wf = true) (hl : (l.length : Int) ≤ 1048576) : DrawP.Code8 l := ⟨fun x hx => by
  have := hw x hx
  simp [Lit.wf] at this
  have e1 : IntKind.u8.min = 0 := by decide
  have e2 : IntKind.u8.max = 255 := by decide
  rw [e1, e2] at this
  simpa using this, by omega⟩
theorem FnSnailsClimb_all (Ac : Option Addr) (cc : Nat) (lc : List Int) (Am : Option Addr) (cm : Nat) (lm : List Int) (w0 : World) (hr1 : Kd.C (Kd.int .u8) w0 Ac lc.length lc) (hc1 : lc.length ≤ cc) (hr2 : Kd.C (Kd.int .u8) w0 Am lm.length lm) (hc2 : lm.length ≤ cm)
    (hm1 : lc.length ≤ maxLen) (hy1 : lc.length * 1 ≤ 140737488351232) (hw1 : ∀ x ∈ lc, (Lit.int .u8 x).wf = true) (hm2 : lm.length ≤ maxLen) (hy2 : lm.length * 1 ≤ 140737488351232) (hw2 : ∀ x ∈ lm, (Lit.int .u8 x).wf = true) (ht : T2 w0) :
    Calls Tryz.prog 3 #[.slice Ac lc.length cc, .slice Am lm.length cm] w0 fun e w' => e = .returned (.bool true) ∧ Below w0.heap.size w0 w' := by
  by_cases h : (lc.length : Int) + (lm.length : Int) ≤ 1048576
  · obtain ⟨N, hN⟩ : ∃ N, 999999997 ≤ N := ⟨999999997, by omega⟩
    exact climbA Ac Am cc cm lc lm w0 (fun W hW => bigF Ac Am cc cm lc lm h W (Kd.C_below hr1 hW) hc1 (Kd.C_below hr2 hW) hc2)
      (fun W hW => DrawP.drawMH Ac cc lc (code8 lc hw1 (by omega)) W (Kd.C_below hr1 hW)) (fun W hW => DrawP.drawDH e_l1Least e_l1Most Am cm lm (code8 lm hw2 (by omega)) W (Kd.C_below hr2 hW))
      (fun W hW => DrawP.drawSU Am cm lm (code8 lm hw2 (by omega)) W (Kd.C_below hr2 hW)) (fun W hW => DrawP.drawMD Am cm lm (code8 lm hw2 (by omega)) W (Kd.C_below hr2 hW))
      (fun W hW => DrawP.drawPS sn_text Am cm lm (code8 lm hw2 (by omega)) W (Kd.C_below hr2 hW))
      (c_all N (by omega)) (d_all N (by omega)) (s_all N (by omega)) (m_all N (by omega)) (p_all N (by omega)) ht
  · exact law_bigT Ac Am cc cm lc lm w0 (bigT Ac Am cc cm lc lm h (by omega) (by omega) w0 hr1 hc1 hr2 hc2)


end Go.Proofs.YtaoejhikigljeaaGreatDoor.Pure
