/- The pure statement of the law FnSnailsRace: what the program's function computes is what the reference's computes. -/
import Derived.Test.YtbbglmoenjdloaaOFnSnailsRacex
namespace Go.Proofs.Ytbbglmoenjdloaa.Pure
open Go.RowKit Go.Proofs.Ytbbglmoenjdloaa.OFnSnailsRace Go.Proofs.YtbbglmoenjdloaaW.PrintWords Go.Proofs.YtbbglmoenjdloaaW.PrintLast Go.Proofs.YtbbglmoenjdloaaW.PrintMore
set_option linter.unusedVariables false
set_option linter.unusedSimpArgs false
theorem w64 (n : Int) (h1 : -9223372036854775808 ≤ n) (h2 : n ≤ 9223372036854775807) : wrap64 n = n := by unfold wrap64; omega
theorem dec_and (p q : Prop) [Decidable p] [Decidable q] [Decidable (p ∧ q)] : (if p then some (decide q) else some false) = some (decide (p ∧ q)) := by
  by_cases h : p <;> by_cases h' : q <;> simp [h, h']
theorem le_cases (a b c : Int) : (if a ≥ b then some (decide (a ≤ c)) else some false) = some (decide (b ≤ a ∧ a ≤ c)) := by
  by_cases h : b ≤ a <;> by_cases h' : a ≤ c <;> simp [h, h']
def gd (u d : Int) : Prop := 1 ≤ u ∧ u ≤ 1000 ∧ 0 ≤ d ∧ d ≤ 1000
instance (u d : Int) : Decidable (gd u d) := by unfold gd; infer_instance
def gk (p s : Int) : Prop := -1000 ≤ p ∧ p ≤ 1000 ∧ -100 ≤ s ∧ s ≤ 100
instance (p s : Int) : Decidable (gk p s) := by unfold gk; infer_instance
def gw (w : Int) : Prop := 1 ≤ w ∧ w ≤ 1000000
instance (w : Int) : Decidable (gw w) := by unfold gw; infer_instance
def reach (u d day : Int) : Int := if u ≤ d then u else u + (day - 1) * (u - d)
def dayH (u d h : Int) : Int := if h ≤ u then 1 else if u ≤ d then 0 else 1 + (h - u + (u - d) - 1) / (u - d)
theorem mul_bd (a b A B : Int) (h1 : 0 ≤ a) (h2 : a ≤ A) (h3 : 0 ≤ b) (h4 : b ≤ B) : 0 ≤ a * b ∧ a * b ≤ A * B :=
  ⟨Int.mul_nonneg h1 h3, Int.mul_le_mul h2 h4 h3 (by omega)⟩
theorem reach_bd (u d day : Int) (g : gd u d) (w : gw day) : u ≤ reach u d day ∧ reach u d day ≤ 1000000000 := by
  unfold gd at g; unfold gw at w; unfold reach
  split
  · omega
  · have := mul_bd (day - 1) (u - d) 999999 1000 (by omega) (by omega) (by omega) (by omega)
    omega
theorem div_bd (x g : Int) (hg : 1 ≤ g) (hx : 0 ≤ x) : 0 ≤ x / g ∧ x / g ≤ x :=
  ⟨Int.ediv_nonneg hx (by omega), Int.ediv_le_self _ hx⟩
theorem dayH_bd (u d h : Int) (g : gd u d) (hh : h ≤ 1000000) : 0 ≤ dayH u d h ∧ dayH u d h ≤ 1001000 := by
  unfold gd at g; unfold dayH
  split
  · omega
  · split
    · omega
    · have := div_bd (h - u + (u - d) - 1) (u - d) (by omega) (by omega)
      omega
theorem ceil_le (x g n : Int) (hg : 1 ≤ g) : (x + g - 1) / g ≤ n ↔ x ≤ n * g := by
  have h : (x + g - 1) / g < n + 1 ↔ x + g - 1 < (n + 1) * g := Int.ediv_lt_iff_lt_mul (by omega)
  have e : (n + 1) * g = n * g + g := by rw [Int.add_mul, Int.one_mul]
  rw [e] at h
  constructor
  · intro k; have := h.mp (by omega); omega
  · intro k; have := h.mpr (by omega); omega
/-- The day is reached at the end of a day just if that day is not before it. -/
theorem dayH_le (u d h day : Int) (hd : 1 ≤ day) : (0 < dayH u d h ∧ dayH u d h ≤ day) ↔ h ≤ reach u d day := by
  unfold dayH reach
  by_cases h1 : h ≤ u
  · rw [if_pos h1]
    split
    · omega
    · have := Int.mul_nonneg (show 0 ≤ day - 1 by omega) (show 0 ≤ u - d by omega)
      omega
  · rw [if_neg h1]
    by_cases h2 : u ≤ d
    · rw [if_pos h2, if_pos h2]; omega
    · rw [if_neg h2, if_neg h2]
      have a := Int.ediv_nonneg (show 0 ≤ h - u + (u - d) - 1 by omega) (show 0 ≤ u - d by omega)
      have c := ceil_le (h - u) (u - d) (day - 1) (by omega)
      constructor
      · rintro ⟨_, k⟩; have := c.mp (by omega); omega
      · intro k; have := c.mpr (by omega); omega
def daysV (u d w : Int) : Int × Bool := if gd u d ∧ gw w then (dayH u d w, decide (0 < dayH u d w)) else (0, false)
def greatV (u d w : Int) : Int × Bool := if gd u d ∧ gw w then (reach u d w, true) else (0, false)
def evenV (u d w day : Int) : Int × Bool := if (gd u d ∧ gw w) ∧ gw day then (min w (reach u d day), true) else (0, false)
def mornV (u d w day : Int) : Int × Bool := if (gd u d ∧ gw w) ∧ gw day then (if day = 1 then 0 else if min w (reach u d (day - 1)) = w then w else max 0 (min w (reach u d (day - 1)) - d), true) else (0, false)
def mornI (u d w day : Int) : Int := if day = 1 then 0 else if min w (reach u d (day - 1)) = w then w else max 0 (min w (reach u d (day - 1)) - d)
def dayV (u d w h : Int) : Int × Bool := if (gd u d ∧ gw w) ∧ 0 ≤ h ∧ h ≤ w then (dayH u d h, decide (0 < dayH u d h)) else (0, false)
def leadV (u d u' d' w day : Int) : Int × Bool := if ((gd u d ∧ gw w) ∧ gd u' d') ∧ gw day then (min w (reach u d day) - min w (reach u' d' day), true) else (0, false)
def upL (P : Int → Bool) : Nat → Int → Int × Bool
  | 0, _ => (0, false)
  | n + 1, up => if P up = true then (up, true) else upL P n (up + 1)
def slowP (w days d up : Int) : Bool := decide (w ≤ reach up d days)
def slowV (w days d : Int) : Int × Bool := if (gw w ∧ gw days) ∧ 0 ≤ d ∧ d ≤ 1000 then upL (slowP w days d) 1000 1 else (0, false)
def downL (P : Int → Bool) : Nat → Int → Int × Bool
  | 0, _ => (0, false)
  | n + 1, x => if P x = true then (x, true) else downL P n (x - 1)
def mostP (w days u x : Int) : Bool := decide (w ≤ reach u x days)
def mostV (w days u : Int) : Int × Bool := if (gw w ∧ gw days) ∧ 1 ≤ u ∧ u ≤ 1000 then downL (mostP w days u) 1001 1000 else (0, false)
theorem e_within (a b c : Int) : impl_within.f a b c = some (decide (b ≤ a ∧ a ≤ c)) := by
  unfold impl_within.f; exact le_cases a b c
theorem e_l1In (a b c : Int) : spec_l1In.f a b c = some (decide (b ≤ a ∧ a ≤ c)) := by
  unfold spec_l1In.f; exact le_cases a b c
theorem e_iIsSnail (u d : Int) : impl_IsSnail.f u d = some (decide (gd u d)) := by
  unfold impl_IsSnail.f; simp only [e_within, Option.bind_some]
  by_cases h : 1 ≤ u ∧ u ≤ 1000 <;> by_cases h' : 0 ≤ d ∧ d ≤ 1000 <;> simp [gd, h, h'] <;> omega
theorem e_snGood (u d : Int) : spec_snGood.f u d = some (decide (gd u d)) := by
  unfold spec_snGood.f; simp only [e_l1In, Option.bind_some]
  by_cases h : 1 ≤ u ∧ u ≤ 1000 <;> by_cases h' : 0 ≤ d ∧ d ≤ 1000 <;> simp [gd, h, h'] <;> omega
theorem e_isWall (a : Int) : impl_isWall.f a = some (decide (gw a)) := by
  unfold impl_isWall.f; simp only [e_within, Option.bind_some]; rfl
theorem e_snWall (a : Int) : spec_snWall.f a = some (decide (gw a)) := by
  unfold spec_snWall.f; simp only [e_l1In, Option.bind_some]; rfl
theorem e_snDay (a : Int) : spec_snDay.f a = some (decide (gw a)) := by
  unfold spec_snDay.f; simp only [e_l1In, Option.bind_some]; rfl
theorem e_isWalled (u d a : Int) : impl_isWalled.f u d a = some (decide (gd u d ∧ gw a)) := by
  unfold impl_isWalled.f; simp only [e_iIsSnail, e_isWall, Option.bind_some]
  by_cases h : gd u d <;> by_cases h' : gw a <;> simp [h, h']
theorem e_snAsked (u d a : Int) : spec_snAsked.f u d a = some (decide (gd u d ∧ gw a)) := by
  unfold spec_snAsked.f; simp only [e_snGood, e_snWall, Option.bind_some]
  by_cases h : gd u d <;> by_cases h' : gw a <;> simp [h, h']
theorem e_snTwo (u d u' d' a : Int) : spec_snTwo.f u d u' d' a = some (decide ((gd u d ∧ gw a) ∧ gd u' d')) := by
  unfold spec_snTwo.f; simp only [e_snAsked, e_snGood, Option.bind_some]
  by_cases h : gd u d ∧ gw a <;> by_cases h' : gd u' d' <;> simp [h, h']
theorem e_reachOf (u d day : Int) (g : gd u d) (w : gw day) : impl_reachOf.f u d day = some (reach u d day) := by
  have b := reach_bd u d day g w
  unfold gd at g; unfold gw at w; unfold impl_reachOf.f; unfold reach at b ⊢
  have m := mul_bd (day - 1) (u - d)
  rw [w64 (u - d) (by omega) (by omega), w64 (day - 1) (by omega) (by omega)]
  by_cases h : u ≤ d
  · rw [if_pos h]; unfold mx
    have e : (if 0 < u - d then u - d else 0) = 0 := if_neg (by omega)
    rw [e, Int.zero_mul, w64 0 (by omega) (by omega), w64 _ (by omega) (by omega)]; simp
  · rw [if_neg h] at b ⊢; unfold mx
    have e : (if 0 < u - d then u - d else 0) = u - d := if_pos (by omega)
    have m := mul_bd (day - 1) (u - d) 999999 1000 (by omega) (by omega) (by omega) (by omega)
    rw [e, Int.mul_comm (u - d), w64 ((day - 1) * (u - d)) (by omega) (by omega), w64 _ (by omega) (by omega)]
theorem e_snEvening (u d day : Int) (g : gd u d) (w : gw day) : spec_snEvening.f u d day = some (reach u d day) := by
  have b := reach_bd u d day g w
  unfold gd at g; unfold gw at w; unfold spec_snEvening.f; unfold reach at b ⊢
  by_cases h : u ≤ d
  · rw [if_pos h, if_pos h]
  · rw [if_neg h] at b
    rw [if_neg h, if_neg h]
    have m := mul_bd (day - 1) (u - d) 999999 1000 (by omega) (by omega) (by omega) (by omega)
    rw [w64 (u - d) (by omega) (by omega), w64 (day - 1) (by omega) (by omega), w64 ((day - 1) * (u - d)) (by omega) (by omega), w64 _ (by omega) (by omega)]
theorem e_dayOfHeight (u d h : Int) (g : gd u d) (h2 : h ≤ 1000000) : impl_dayOfHeight.f u d h = some (dayH u d h) := by
  unfold gd at g; unfold impl_dayOfHeight.f dayH
  by_cases c1 : h ≤ u
  · rw [if_pos c1, if_pos c1]
  · rw [if_neg c1, if_neg c1]
    by_cases c2 : u ≤ d
    · rw [if_pos c2, if_pos c2]
    · rw [if_neg c2, if_neg c2, w64 (u - d) (by omega) (by omega), if_neg (by omega), w64 (h - u) (by omega) (by omega), w64 (h - u + (u - d)) (by omega) (by omega), w64 (h - u + (u - d) - 1) (by omega) (by omega), Int.tdiv_eq_ediv_of_nonneg (by omega)]
      have b := div_bd (h - u + (u - d) - 1) (u - d) (by omega) (by omega)
      rw [w64 ((h - u + (u - d) - 1) / (u - d)) (by omega) (by omega), w64 _ (by omega) (by omega)]
theorem e_snDays (u d h : Int) (g : gd u d) (h2 : h ≤ 1000000) (hc : u ≥ h ∨ u > d) : spec_snDays.f u d h = some (dayH u d h) := by
  unfold gd at g; unfold spec_snDays.f dayH
  by_cases c1 : h ≤ u
  · rw [if_pos c1, if_pos c1]
  · have c2 : ¬ u ≤ d := by omega
    rw [if_neg c1, if_neg c1, if_neg c2, w64 (u - d) (by omega) (by omega), if_neg (by omega), w64 (h - u) (by omega) (by omega), w64 (h - u + (u - d)) (by omega) (by omega), w64 (h - u + (u - d) - 1) (by omega) (by omega), Int.tdiv_eq_ediv_of_nonneg (by omega)]
    have b := div_bd (h - u + (u - d) - 1) (u - d) (by omega) (by omega)
    rw [w64 ((h - u + (u - d) - 1) / (u - d)) (by omega) (by omega), w64 _ (by omega) (by omega)]
theorem dayH_pos (u d h : Int) : 0 < dayH u d h ↔ (u ≥ h ∨ u > d) := by
  unfold dayH
  by_cases c1 : h ≤ u
  · rw [if_pos c1]; omega
  · rw [if_neg c1]
    by_cases c2 : u ≤ d
    · rw [if_pos c2]; omega
    · rw [if_neg c2]; have := Int.ediv_nonneg (show 0 ≤ h - u + (u - d) - 1 by omega) (show 0 ≤ u - d by omega); omega
theorem e_snCan (u d h : Int) : spec_snCan.f u d h = some (decide (0 < dayH u d h)) := by
  unfold spec_snCan.f; simp only [dayH_pos]
  by_cases c1 : u ≥ h <;> by_cases c2 : u > d <;> simp [c1, c2]
theorem e_eveningHeight (u d w day : Int) (g : gd u d) (h : gw day) : impl_eveningHeight.f u d w day = some (min w (reach u d day)) := by
  unfold impl_eveningHeight.f; rw [e_reachOf u d day g h]; simp only [Option.bind_some]; unfold mn; congr 1; omega
theorem e_l1Least (a b : Int) : spec_l1Least.f a b = some (min a b) := by
  unfold spec_l1Least.f; split <;> (congr 1; omega)
theorem e_l1Most (a b : Int) : spec_l1Most.f a b = some (max a b) := by
  unfold spec_l1Most.f; split <;> (congr 1; omega)
theorem e_iDaysToTop (u d w : Int) : impl_DaysToTop.f u d w = some (daysV u d w) := by
  unfold impl_DaysToTop.f daysV; rw [e_isWalled]; simp only [Option.bind_some, decide_eq_true_eq]
  by_cases h : gd u d ∧ gw w
  · rw [if_pos h, if_pos h, e_dayOfHeight u d w h.1 (by have := h.2; unfold gw at this; omega)]; rfl
  · rw [if_neg h, if_neg h]
theorem e_iEveningHeight (u d w day : Int) : impl_EveningHeight.f u d w day = some (evenV u d w day) := by
  unfold impl_EveningHeight.f evenV; rw [e_isWalled, e_isWall]; simp only [Option.bind_some, decide_eq_true_eq]
  by_cases h : gd u d ∧ gw w <;> by_cases h' : gw day <;> simp only [h, h', if_true, if_false, and_self, and_true, true_and, and_false, false_and]
  rw [e_eveningHeight u d w day h.1 h']; rfl
theorem e_iLeadOf (k : Nat) (u d u' d' w day : Int) (hk : 1 ≤ k) : impl_LeadOf.f k u d u' d' w day = some (leadV u d u' d' w day) := by
  obtain ⟨k, rfl⟩ : ∃ m, k = m + 1 := ⟨k - 1, by omega⟩
  unfold impl_LeadOf.f leadV; rw [e_isWalled, e_iIsSnail, e_isWall]; simp only [Option.bind_some, decide_eq_true_eq, impl_LeadOf.j0]
  by_cases h : gd u d ∧ gw w <;> by_cases h1 : gd u' d' <;> by_cases h' : gw day <;> simp [h, h', h1]
  have b1 := reach_bd u d day h.1 h'
  have b2 := reach_bd u' d' day h1 h'
  have g2 := h.1; have g3 := h.2; unfold gd at g2 h1; unfold gw at g3
  rw [e_eveningHeight u d w day h.1 h', e_eveningHeight u' d' w day (by unfold gd; exact h1) h']
  simp only [Option.bind_some]
  rw [w64 _ (by omega) (by omega)]
theorem e_sLeadOf (k : Nat) (u d u' d' w day : Int) (hk : 1 ≤ k) : spec_LeadOf.f k u d u' d' w day = some (leadV u d u' d' w day) := by
  obtain ⟨k, rfl⟩ : ∃ m, k = m + 1 := ⟨k - 1, by omega⟩
  unfold spec_LeadOf.f leadV; rw [e_snTwo, e_snDay]; simp only [Option.bind_some, decide_eq_true_eq, spec_LeadOf.j0]
  by_cases h : gd u d ∧ gw w <;> by_cases h1 : gd u' d' <;> by_cases h' : gw day <;> simp [h, h', h1]
  have b1 := reach_bd u d day h.1 h'
  have b2 := reach_bd u' d' day h1 h'
  have g2 := h.1; have g3 := h.2; unfold gd at g2; unfold gw at g3
  have g4 := h1; unfold gd at g4
  rw [e_snEvening u d day h.1 h', e_snEvening u' d' day h1 h']
  simp only [Option.bind_some, e_l1Least]
  rw [w64 _ (by omega) (by omega)]
theorem uniq (a b q r : Int) (hb : 0 < b) (e : b * q + r = a) (h0 : 0 ≤ r) (h1 : r < b) : a / b = q ∧ a % b = r :=
  (Int.ediv_emod_unique hb).mpr ⟨by rw [← e]; exact Int.add_comm _ _, h0, h1⟩
theorem tm_bd (a b : Int) (hb : 0 < b) : b * a.tdiv b + a.tmod b = a ∧ -b < a.tmod b ∧ a.tmod b < b :=
  ⟨Int.mul_tdiv_add_tmod a b, Int.lt_tmod_of_pos a hb, Int.tmod_lt_of_pos a hb⟩
theorem floor_is (a b : Int) (hb : 0 < b) : (if a.tmod b < 0 then a.tdiv b - 1 else a.tdiv b) = a / b := by
  obtain ⟨e, h0, h1⟩ := tm_bd a b hb
  split
  · have := uniq a b (a.tdiv b - 1) (a.tmod b + b) hb (by rw [Int.mul_sub]; omega) (by omega) (by omega)
    exact this.1.symm
  · have := uniq a b (a.tdiv b) (a.tmod b) hb e (by omega) h1
    exact this.1.symm
theorem mod_is (a b : Int) (hb : 0 < b) : (a.tmod b + b).tmod b = a % b := by
  obtain ⟨e, h0, h1⟩ := tm_bd a b hb
  rw [Int.tmod_eq_emod_of_nonneg (by omega), Int.add_emod_right]
  have h := Int.add_mul_emod_self_left (a.tmod b) b (a.tdiv b)
  rw [Int.add_comm, e] at h
  exact h.symm
theorem abs_mx (a : Int) : mx a (-a) = (a.natAbs : Int) := by unfold mx; split <;> omega
theorem gcd_pos (num den : Int) (h : den ≠ 0) : 0 < (Int.gcd num den : Int) := by
  have : 0 < Int.gcd num den := Int.gcd_pos_of_ne_zero_right _ h
  omega
theorem tdiv_ex (a g : Int) (h : g ∣ a) : a.tdiv g = a / g := Int.tdiv_eq_ediv_of_dvd h
def gt (a b : Int) : Prop := 0 ≤ a ∧ a ≤ 1000000 ∧ 1 ≤ b ∧ b ≤ 1000
instance (a b : Int) : Decidable (gt a b) := by unfold gt; infer_instance
def gr (a : Int) : Prop := 1 ≤ a ∧ a ≤ 1000
instance (a : Int) : Decidable (gr a) := by unfold gr; infer_instance
def lowN (num den : Int) : Int := (if den < 0 then -num else num) / (Int.gcd num den : Int)
def lowD (num den : Int) : Int := (if den < 0 then -den else den) / (Int.gcd num den : Int)
def placeV (p s num den : Int) : Int := p * den + s * num
def wpV (p s num den : Int) : Int × Int × Bool := if gk p s ∧ gt num den then (lowN (placeV p s num den) den, lowD (placeV p s num den) den, true) else (0, 0, false)
def gapV (p s p' s' num den : Int) : Int := ((placeV p s num den - placeV p' s' num den).natAbs : Int)
def gaV (p s p' s' num den : Int) : Int × Int × Bool := if (gk p s ∧ gk p' s') ∧ gt num den then (lowN (gapV p s p' s' num den) den, lowD (gapV p s p' s' num den) den, true) else (0, 0, false)
def meetV (p s p' s' : Int) : Int × Int × Bool := if p = p' then (0, 1, true) else if s = s' then (0, 0, false) else if lowN (p' - p) (s - s') < 0 then (0, 0, false) else (lowN (p' - p) (s - s'), lowD (p' - p) (s - s'), true)
def mtV (p s p' s' : Int) : Int × Int × Bool := if gk p s ∧ gk p' s' then meetV p s p' s' else (0, 0, false)
def mpV (p s p' s' : Int) : Int × Int × Bool := if (gk p s ∧ gk p' s') ∧ (meetV p s p' s').2.2 = true then (lowN (placeV p s (meetV p s p' s').1 (meetV p s p' s').2.1) (meetV p s p' s').2.1, lowD (placeV p s (meetV p s p' s').1 (meetV p s p' s').2.1) (meetV p s p' s').2.1, true) else (0, 0, false)
def ringV (a p s p' s' : Int) : Int × Int := if s < s' then ((p - p') % a, s' - s) else ((p' - p) % a, s - s')
def ringV' (a p s p' s' : Int) : Int × Int := if s < s' then ((p - p') % a, s' - s) else ((p' - p) % a, s - s')
def rgV (a p s p' s' : Int) : Int × Int × Bool := if ((gr a ∧ gk p s) ∧ gk p' s') ∧ ¬ s = s' then (lowN a ((s - s').natAbs : Int), lowD a ((s - s').natAbs : Int), true) else (0, 0, false)
def crV (a p s p' s' t : Int) : Int × Bool := if (((gr a ∧ gk p s) ∧ gk p' s') ∧ ¬ s = s') ∧ 0 ≤ t ∧ t ≤ 1000 then (if t * (ringV a p s p' s').2 < (ringV a p s p' s').1 then 0 else (t * (ringV a p s p' s').2 - (ringV a p s p' s').1) / a + 1, true) else (0, false)
theorem div_abs (a g : Int) (hg : 1 ≤ g) (B : Int) (h : -B ≤ a ∧ a ≤ B) : -B ≤ a / g ∧ a / g ≤ B := by
  constructor
  · have : -B ≤ a / g ↔ -B * g ≤ a := Int.le_ediv_iff_mul_le (by omega)
    refine this.mpr ?_
    have hB : 0 ≤ B := by omega
    have := Int.mul_le_mul_of_nonneg_left hg hB
    rw [Int.neg_mul]; omega
  · rcases Int.lt_or_le a 0 with h' | h'
    · have : a / g < 0 ↔ a < 0 * g := Int.ediv_lt_iff_lt_mul (by omega)
      have := this.mpr (by omega)
      omega
    · have := Int.ediv_le_self g h'
      omega
theorem low_bd (num den B : Int) (hd : den ≠ 0) (h1 : -B ≤ num ∧ num ≤ B) (h2 : -B ≤ den ∧ den ≤ B) : (-B ≤ lowN num den ∧ lowN num den ≤ B) ∧ (1 ≤ lowD num den ∧ lowD num den ≤ B) := by
  have hg := gcd_pos num den hd
  refine ⟨?_, ?_⟩
  · unfold lowN; exact div_abs _ _ (by omega) B (by split <;> omega)
  · have h := div_abs (if den < 0 then -den else den) (Int.gcd num den : Int) (by omega) B (by split <;> omega)
    unfold lowD
    refine ⟨?_, h.2⟩
    have hd' : (Int.gcd num den : Int) ∣ (if den < 0 then -den else den) := by
      split
      · exact Int.dvd_neg.mpr (Int.gcd_dvd_right ..)
      · exact Int.gcd_dvd_right ..
    have hp : 0 < (if den < 0 then -den else den) := by split <;> omega
    have := Int.ediv_pos_of_pos_of_dvd hp (by omega) hd'
    omega
theorem lowN_neg (num den : Int) (hd : den ≠ 0) : lowN num den < 0 ↔ (if den < 0 then -num else num) < 0 := by
  have hg := gcd_pos num den hd
  unfold lowN
  have : (if den < 0 then -num else num) / (Int.gcd num den : Int) < 0 ↔ (if den < 0 then -num else num) < 0 * (Int.gcd num den : Int) := Int.ediv_lt_iff_lt_mul (by omega)
  rw [Int.zero_mul] at this
  exact this
theorem ediv_min (a g : Int) (h : g ∣ a) (hg : g ≠ 0) : -a / g = -(a / g) := Int.neg_ediv_of_dvd h
theorem abs_mul (a b A B : Int) (h1 : -A ≤ a ∧ a ≤ A) (h2 : 0 ≤ b ∧ b ≤ B) : -(A * B) ≤ a * b ∧ a * b ≤ A * B := by
  have hA : 0 ≤ A := by omega
  have t : A * b ≤ A * B := Int.mul_le_mul_of_nonneg_left h2.2 hA
  have t1 : a * b ≤ A * b := Int.mul_le_mul_of_nonneg_right h1.2 h2.1
  have t2 : -A * b ≤ a * b := Int.mul_le_mul_of_nonneg_right h1.1 h2.1
  rw [Int.neg_mul] at t2
  omega
theorem e_l1Most' (a b : Int) : spec_l1Most.f a b = some (max a b) := by
  unfold spec_l1Most.f; split <;> (congr 1; omega)
theorem rdn (l : List Int) (i : Nat) : rd l (i : Int) = l.getD i 0 := by simp [rd]
theorem drop_cons (l : List Int) (i : Nat) (h : i < l.length) : l.drop i = l.getD i 0 :: l.drop (i + 1) := by
  rw [List.drop_eq_getElem_cons h]; simp [List.getD_eq_getElem?_getD, h]
theorem getD_mem (l : List Int) (i : Nat) (h : i < l.length) : l.getD i 0 ∈ l := by
  simp [List.getD_eq_getElem?_getD, h]
theorem round1 {k n : Nat} (h : n < k) : ∃ m, k = m + 1 ∧ n ≤ m := ⟨k - 1, by omega, by omega⟩
def gs (up : Int) (s : List Int) : Prop := (1 ≤ up ∧ up ≤ 1000) ∧ (1 ≤ (s.length : Int) ∧ (s.length : Int) ≤ 12) ∧ ∀ x ∈ s, 0 ≤ x ∧ x ≤ 1000
instance (up : Int) (s : List Int) : Decidable (gs up s) := by unfold gs; infer_instance
/-- The slip of the night behind day j + 1. -/
def sl (s : List Int) (j : Nat) : Int := s.getD (j % s.length) 0
theorem sl_bd (up : Int) (s : List Int) (g : gs up s) (j : Nat) : 0 ≤ sl s j ∧ sl s j ≤ 1000 := by
  obtain ⟨_, h, ha⟩ := g
  exact ha _ (getD_mem s _ (Nat.mod_lt _ (by omega)))
theorem tmod_nat (j n : Nat) : Int.tmod (j : Int) (n : Int) = ((j % n : Nat) : Int) := by
  rw [Int.tmod_eq_emod_of_nonneg (by omega), Int.natCast_emod]
/-- How far it comes at most: rounds left, day, height in the morning, most so far. -/
def gsL (up : Int) (s : List Int) : Nat → Nat → Int → Int → Int
  | 0, _, _, most => most
  | n + 1, j, m, most => gsL up s n (j + 1) (max 0 (m + up - sl s j)) (max most (m + up))
def gwsV (up : Int) (s : List Int) (days : Int) : Int × Bool := if gs up s ∧ gw days then (gsL up s days.toNat 0 0 0, true) else (0, false)
theorem e_l1All_l0 (lo hi : Int) (l : List Int) (hl : (l.length : Int) ≤ 9000000000000000000) : ∀ (n i k : Nat), i + n = l.length → n < k → spec_l1All.l0 k lo hi l (l.length : Int) (i : Int) = some (decide (∀ x ∈ l.drop i, lo ≤ x ∧ x ≤ hi)) := by
  intro n
  induction n with
  | zero =>
    intro i k hi hk
    obtain ⟨k, rfl, hk⟩ := round1 hk
    simp only [spec_l1All.l0]
    rw [if_neg (by omega), List.drop_eq_nil_of_le (by omega)]; simp
  | succ n ih =>
    intro i k hi' hk
    obtain ⟨k, rfl, hk⟩ := round1 hk
    simp only [spec_l1All.l0]
    rw [if_pos (by omega), if_pos (by omega), if_pos (by omega), rdn, e_l1In, drop_cons l i (by omega), w64 _ (by omega) (by omega)]
    have e : ((i : Int) + 1) = ((i + 1 : Nat) : Int) := by omega
    rw [e, ih (i + 1) k (by omega) (by omega)]
    by_cases h : lo ≤ l.getD i 0 ∧ l.getD i 0 ≤ hi
    · simp only [Option.bind_some, decide_eq_true_eq, List.forall_mem_cons]
      rw [if_pos h]; congr 1; exact decide_eq_decide.mpr ⟨fun z => ⟨h, z⟩, fun z => z.2⟩
    · simp only [Option.bind_some, decide_eq_true_eq, List.forall_mem_cons]
      rw [if_neg h]; congr 1; symm; rw [decide_eq_false_iff_not]; exact fun z => h z.1
theorem e_l1All (k : Nat) (lo hi : Int) (l : List Int) (hl : (l.length : Int) ≤ 9000000000000000000) (hk : l.length < k) : spec_l1All.f k l lo hi = some (decide (∀ x ∈ l, lo ≤ x ∧ x ≤ hi)) := by
  unfold spec_l1All.f
  have := e_l1All_l0 lo hi l hl l.length 0 k (by omega) hk
  exact this
theorem e_allWithin_l0 (lo hi : Int) (l : List Int) (hl : (l.length : Int) ≤ 9000000000000000000) : ∀ (n i k : Nat), i + n = l.length → n < k → impl_allWithin.l0 k lo hi l (l.length : Int) (i : Int) = some (decide (∀ x ∈ l.drop i, lo ≤ x ∧ x ≤ hi)) := by
  intro n
  induction n with
  | zero =>
    intro i k hi hk
    obtain ⟨k, rfl, hk⟩ := round1 hk
    simp only [impl_allWithin.l0]
    rw [if_neg (by omega), List.drop_eq_nil_of_le (by omega)]; simp
  | succ n ih =>
    intro i k hi' hk
    obtain ⟨k, rfl, hk⟩ := round1 hk
    simp only [impl_allWithin.l0]
    rw [if_pos (by omega), if_pos (by omega), if_pos (by omega), rdn, e_within, drop_cons l i (by omega), w64 _ (by omega) (by omega)]
    have e : ((i : Int) + 1) = ((i + 1 : Nat) : Int) := by omega
    rw [e, ih (i + 1) k (by omega) (by omega)]
    by_cases h : lo ≤ l.getD i 0 ∧ l.getD i 0 ≤ hi
    · simp only [Option.bind_some, decide_eq_true_eq, List.forall_mem_cons]
      rw [if_pos h]; congr 1; exact decide_eq_decide.mpr ⟨fun z => ⟨h, z⟩, fun z => z.2⟩
    · simp only [Option.bind_some, decide_eq_true_eq, List.forall_mem_cons]
      rw [if_neg h]; congr 1; symm; rw [decide_eq_false_iff_not]; exact fun z => h z.1
theorem e_allWithin (k : Nat) (lo hi : Int) (l : List Int) (hl : (l.length : Int) ≤ 9000000000000000000) (hk : l.length < k) : impl_allWithin.f k l lo hi = some (decide (∀ x ∈ l, lo ≤ x ∧ x ≤ hi)) := by
  unfold impl_allWithin.f
  have := e_allWithin_l0 lo hi l hl l.length 0 k (by omega) hk
  exact this
theorem e_snSlips (k : Nat) (up : Int) (s : List Int) (hk : 20 < k) : spec_snSlips.f k up s = some (decide (gs up s)) := by
  unfold spec_snSlips.f; simp only [e_l1In, Option.bind_some]
  by_cases h : 1 ≤ up ∧ up ≤ 1000
  · by_cases h' : 1 ≤ (s.length : Int) ∧ (s.length : Int) ≤ 12
    · rw [e_l1All k 0 1000 s (by omega) (by omega)]; simp only [h, h', gs, true_and, and_self, decide_true, if_true, Option.bind_some]
    · simp only [h, h', gs, false_and, and_false, decide_false, decide_true, if_true, and_self]; simp
  · simp only [h, gs, false_and, decide_false]; simp
theorem e_areSlips (k : Nat) (up : Int) (s : List Int) (hk : 20 < k) : impl_areSlips.f k up s = some (decide (gs up s)) := by
  unfold impl_areSlips.f; simp only [e_within, Option.bind_some]
  by_cases h : 1 ≤ up ∧ up ≤ 1000
  · by_cases h' : 1 ≤ (s.length : Int) ∧ (s.length : Int) ≤ 12
    · rw [e_allWithin k 0 1000 s (by omega) (by omega)]; simp only [h, h', gs, true_and, and_self, decide_true, if_true, Option.bind_some]
    · simp only [h, h', gs, false_and, and_false, decide_false, decide_true, if_true, and_self]; simp
  · simp only [h, gs, false_and, decide_false]; simp
theorem e_sGws_l0 (up : Int) (s : List Int) (days : Int) (g : gs up s) (hd : gw days) : ∀ (n j k : Nat) (m most : Int), (j : Int) + n = days → 0 ≤ m → m ≤ j * 1000 → 0 ≤ most → most ≤ 2000000000 → n < k → spec_GreatestWithSlips.l0 k up s days m most ((j : Int) + 1) = some (gsL up s n j m most, true) := by
  have g' := g
  obtain ⟨g1, g2, g3⟩ := g'
  have hd' := hd; unfold gw at hd'
  intro n
  induction n with
  | zero =>
    intro j k m most h1 h2 h3 h4 h5 hk
    obtain ⟨k, rfl, hk⟩ := round1 hk
    simp only [spec_GreatestWithSlips.l0, gsL]
    rw [if_neg (by omega)]
  | succ n ih =>
    intro j k m most h1 h2 h3 h4 h5 hk
    obtain ⟨k, rfl, hk⟩ := round1 hk
    have hs := sl_bd up s g j
    have hm := Nat.mod_lt j (show s.length > 0 by omega)
    simp only [spec_GreatestWithSlips.l0, gsL]
    rw [if_pos (by omega), w64 (m + up) (by omega) (by omega), e_l1Most]
    simp only [Option.bind_some]
    rw [if_neg (by omega), w64 ((j : Int) + 1 - 1) (by omega) (by omega), show ((j : Int) + 1 - 1) = (j : Int) by omega, tmod_nat, if_pos (by omega), if_pos (by omega), rdn, show s.getD (j % s.length) 0 = sl s j from rfl, w64 (m + up - sl s j) (by omega) (by omega), e_l1Most]
    simp only [Option.bind_some]
    rw [w64 ((j : Int) + 1 + 1) (by omega) (by omega), show ((j : Int) + 1) = ((j + 1 : Nat) : Int) by omega]
    exact ih (j + 1) k _ _ (by omega) (by omega) (by omega) (by omega) (by omega) (by omega)
theorem e_sGws (k : Nat) (up : Int) (s : List Int) (days : Int) (hk : 1000010 < k) : spec_GreatestWithSlips.f k up s days = some (gwsV up s days) := by
  obtain ⟨k, rfl⟩ : ∃ m, k = m + 1 := ⟨k - 1, by omega⟩
  unfold spec_GreatestWithSlips.f gwsV; rw [e_snSlips _ up s (by omega), e_snDay]; simp only [Option.bind_some, decide_eq_true_eq, spec_GreatestWithSlips.j0]
  by_cases h : gs up s
  · by_cases h2 : gw days
    · have h3 := h2; unfold gw at h3
      have := e_sGws_l0 up s days h h2 days.toNat 0 k 0 0 (by omega) (by omega) (by omega) (by omega) (by omega) (by omega)
      rw [if_pos h, if_pos (show gs up s ∧ gw days from ⟨h, h2⟩), ← this]; simp [h2]
    · simp [h, h2]
  · simp [h]
theorem e_iGws_l0 (up : Int) (s : List Int) (days : Int) (g : gs up s) (hd : gw days) : ∀ (n j k : Nat) (m most : Int), (j : Int) + n = days → 0 ≤ m → m ≤ j * 1000 → 0 ≤ most → most ≤ 2000000000 → n < k → impl_GreatestWithSlips.l0 k up s most m days (j : Int) = some (gsL up s n j m most, true) := by
  have g' := g
  obtain ⟨g1, g2, g3⟩ := g'
  have hd' := hd; unfold gw at hd'
  intro n
  induction n with
  | zero =>
    intro j k m most h1 h2 h3 h4 h5 hk
    obtain ⟨k, rfl, hk⟩ := round1 hk
    simp only [impl_GreatestWithSlips.l0, gsL]
    rw [if_neg (by omega)]
  | succ n ih =>
    intro j k m most h1 h2 h3 h4 h5 hk
    obtain ⟨k, rfl, hk⟩ := round1 hk
    have hs := sl_bd up s g j
    have hm := Nat.mod_lt j (show s.length > 0 by omega)
    simp only [impl_GreatestWithSlips.l0, gsL]
    rw [if_pos (by omega), w64 (m + up) (by omega) (by omega)]
    rw [if_neg (by omega), tmod_nat, if_pos (by omega), if_pos (by omega), rdn, show s.getD (j % s.length) 0 = sl s j from rfl, w64 (m + up - sl s j) (by omega) (by omega)]
    rw [w64 ((j : Int) + 1) (by omega) (by omega), show ((j : Int) + 1) = ((j + 1 : Nat) : Int) by omega]
    have e1 : mx most (m + up) = max most (m + up) := by unfold mx; omega
    have e2 : mx 0 (m + up - sl s j) = max 0 (m + up - sl s j) := by unfold mx; omega
    rw [e1, e2]
    exact ih (j + 1) k _ _ (by omega) (by omega) (by omega) (by omega) (by omega) (by omega)
theorem e_iGws (k : Nat) (up : Int) (s : List Int) (days : Int) (hk : 1000010 < k) : impl_GreatestWithSlips.f k up s days = some (gwsV up s days) := by
  obtain ⟨k, rfl⟩ : ∃ m, k = m + 1 := ⟨k - 1, by omega⟩
  unfold impl_GreatestWithSlips.f gwsV; rw [e_areSlips _ up s (by omega), e_isWall]; simp only [Option.bind_some, decide_eq_true_eq, impl_GreatestWithSlips.j0]
  by_cases h : gs up s
  · by_cases h2 : gw days
    · have h3 := h2; unfold gw at h3
      have := e_iGws_l0 up s days h h2 days.toNat 0 k 0 0 (by omega) (by omega) (by omega) (by omega) (by omega) (by omega)
      rw [if_pos h, if_pos (show gs up s ∧ gw days from ⟨h, h2⟩), ← this]; simp [h2]
    · simp [h, h2]
  · simp [h]
/-- How high it is in the morning before day j + 1, if there is no top. -/
def mor (up : Int) (s : List Int) : Nat → Int
  | 0 => 0
  | j + 1 => max 0 (mor up s j + up - sl s j)
theorem mor_bd (up : Int) (s : List Int) (g : gs up s) : ∀ j : Nat, 0 ≤ mor up s j ∧ mor up s j ≤ j * 1000 := by
  intro j
  induction j with
  | zero => simp [mor]
  | succ j ih =>
    have hs := sl_bd up s g j
    have g1 := g.1
    simp only [mor]
    omega
theorem sl_per (s : List Int) (j : Nat) : sl s (j + s.length) = sl s j := by unfold sl; rw [Nat.add_mod_right]
theorem mor_step (up : Int) (s : List Int) (a : Nat) (h : mor up s (a + s.length) ≤ mor up s a) : ∀ t, mor up s (a + t + s.length) ≤ mor up s (a + t) := by
  intro t
  induction t with
  | zero => exact h
  | succ t ih =>
    have e : a + (t + 1) + s.length = (a + t + s.length) + 1 := by omega
    rw [e, show a + (t + 1) = (a + t) + 1 by omega]
    simp only [mor]
    rw [sl_per s (a + t)]
    omega
theorem mor_never (up w : Int) (s : List Int) (hs : 1 ≤ s.length) (a : Nat) (h : mor up s (a + s.length) ≤ mor up s a) (hb : ∀ i, i < a + s.length → mor up s i + up < w) : ∀ j, mor up s j + up < w := by
  intro j
  induction j using Nat.strongRecOn with
  | ind j ih =>
    rcases Nat.lt_or_ge j (a + s.length) with h1 | h1
    · exact hb j h1
    · have := mor_step up s a h (j - s.length - a)
      rw [show a + (j - s.length - a) + s.length = j by omega, show a + (j - s.length - a) = j - s.length by omega] at this
      have := ih (j - s.length) (by omega)
      omega
/-- What the day of the top is: the first one, or that there is none. -/
def DS (up : Int) (s : List Int) (w : Int) (r : Int × Bool) : Prop :=
  (∃ j : Nat, r = ((j : Int) + 1, true) ∧ mor up s j + up ≥ w ∧ ∀ i, i < j → mor up s i + up < w) ∨ (r = (0, false) ∧ ∀ j, mor up s j + up < w)
theorem DS_one (up : Int) (s : List Int) (w : Int) (r r' : Int × Bool) (h : DS up s w r) (h' : DS up s w r') : r = r' := by
  rcases h with ⟨j, e, a, b⟩ | ⟨e, a⟩ <;> rcases h' with ⟨j', e', a', b'⟩ | ⟨e', a'⟩
  · rcases Nat.lt_trichotomy j j' with h | h | h
    · have := b' j h; omega
    · rw [e, e', h]
    · have := b j' h; omega
  · have := a' j; omega
  · have := a j'; omega
  · rw [e, e']
theorem e_sDws_l0 (up : Int) (s : List Int) (w : Int) (g : gs up s) (hw : gw w) : ∀ (M n q : Nat), n ≤ s.length → 1 ≤ n → mor up s (q * s.length) + up < w + up → (w - mor up s (q * s.length)).toNat ≤ M → q ≤ 1000000 → q ≤ (mor up s (q * s.length)) → (∀ i, i < q * s.length + (s.length - n) → mor up s i + up < w) →
    ∃ r, DS up s w r ∧ Ev (fun k => spec_DaysWithSlips.l0 k up s w (mor up s (q * s.length + (s.length - n))) (mor up s (q * s.length)) (((q * s.length + (s.length - n) : Nat) : Int) + 1)) r := by
  obtain ⟨g1, g2, g3⟩ := g
  have hw' := hw; unfold gw at hw'
  intro M
  induction M with
  | zero => intro n q h1 h2 h3 h4; omega
  | succ M IH =>
    intro n
    induction n with
    | zero => intro q h1 h2; omega
    | succ n ih =>
      intro q h1 h2 h3 h4 h5 h6 h7
      generalize hj : q * s.length + (s.length - (n + 1)) = j at *
      have hjb : (j : Int) ≤ 13000000 := by
        have : q * s.length ≤ 1000000 * 12 := Nat.mul_le_mul h5 (by omega)
        omega
      have hs := sl_bd up s ⟨g1, g2, g3⟩ j
      have hmb := mor_bd up s ⟨g1, g2, g3⟩ j
      have hmod := Nat.mod_lt j (show s.length > 0 by omega)
      by_cases c : mor up s j + up ≥ w
      · refine ⟨((j : Int) + 1, true), .inl ⟨j, rfl, c, h7⟩, ?_⟩
        refine Ev.step (f := fun _ => some ((j : Int) + 1, true)) (fun k => ?_) (Ev.now _)
        simp only [spec_DaysWithSlips.l0]
        rw [w64 (mor up s j + up) (by omega) (by omega), if_pos c]
      · have e1 : mor up s (j + 1) = max 0 (mor up s j + up - sl s j) := rfl
        have h7' : ∀ i, i < j + 1 → mor up s i + up < w := by
          intro i hi
          rcases Nat.lt_or_ge i j with h | h
          · exact h7 i h
          · have : i = j := by omega
            subst this; omega
        have hstep : ∀ k b, spec_DaysWithSlips.l0 (k + 1) up s w (mor up s j) b ((j : Int) + 1) = (if (((j + 1) % s.length : Nat) : Int) = 0 then (if mor up s (j + 1) ≤ b then (some (0, false)) else (spec_DaysWithSlips.l0 k up s w (mor up s (j + 1)) (mor up s (j + 1)) (((j + 1 : Nat) : Int) + 1))) else (spec_DaysWithSlips.l0 k up s w (mor up s (j + 1)) b (((j + 1 : Nat) : Int) + 1))) := by
          intro k b
          simp only [spec_DaysWithSlips.l0]
          rw [w64 (mor up s j + up) (by omega) (by omega), if_neg c, if_neg (by omega), w64 ((j : Int) + 1 - 1) (by omega) (by omega), show ((j : Int) + 1 - 1) = (j : Int) by omega, tmod_nat, if_pos (by omega), if_pos (by omega), rdn, show s.getD (j % s.length) 0 = sl s j from rfl, w64 (mor up s j + up - sl s j) (by omega) (by omega), e_l1Most]
          simp only [Option.bind_some]
          rw [w64 ((j : Int) + 1 + 1) (by omega) (by omega), ← e1, show ((j : Int) + 1) = ((j + 1 : Nat) : Int) by omega, tmod_nat]
        by_cases hn : n = 0
        · -- the round ends
          subst hn
          have ej : j + 1 = (q + 1) * s.length := by rw [Nat.add_mul]; omega
          have em : (j + 1) % s.length = 0 := by rw [ej]; exact Nat.mul_mod_left _ _
          by_cases d : mor up s (j + 1) ≤ mor up s (q * s.length)
          · refine ⟨(0, false), .inr ⟨rfl, ?_⟩, ?_⟩
            · refine mor_never up w s (by omega) (q * s.length) ?_ ?_
              · rw [show q * s.length + s.length = j + 1 by omega]; exact d
              · intro i hi; exact h7' i (by omega)
            · refine Ev.step (f := fun _ => some (0, false)) (fun k => ?_) (Ev.now _)
              rw [hstep, em, if_pos (by rfl), if_pos d]
          · have h7q := h7' j (by omega)
            have hmj := (mor_bd up s ⟨g1, g2, g3⟩ (j + 1)).1
            have hq1 : mor up s (j + 1) < w := by omega
            have := IH s.length (q + 1) (by omega) (by omega) (by rw [← ej]; omega) (by rw [← ej]; omega) (by omega) (by rw [← ej]; omega) (by rw [← ej, Nat.sub_self, Nat.add_zero]; exact h7')
            obtain ⟨r, hr, hE⟩ := this
            refine ⟨r, hr, ?_⟩
            rw [← ej, Nat.sub_self, Nat.add_zero] at hE
            refine Ev.step (fun k => ?_) hE
            rw [hstep, em, if_pos (by rfl), if_neg d]
        · have em : (j + 1) % s.length ≠ 0 := by
            have : j + 1 = q * s.length + (s.length - n) := by omega
            rw [this, Nat.mul_comm, Nat.mul_add_mod, Nat.mod_eq_of_lt (by omega)]; omega
          obtain ⟨r, hr, hE⟩ := ih q (by omega) (by omega) h3 h4 h5 h6 (by intro i hi; exact h7' i (by omega))
          refine ⟨r, hr, ?_⟩
          rw [show q * s.length + (s.length - n) = j + 1 by omega] at hE
          refine Ev.step (fun k => ?_) hE
          rw [hstep, if_neg (by omega)]
theorem e_iDws_l1 (up : Int) (s : List Int) (w : Int) (g : gs up s) (hw : gw w) : ∀ (M n q : Nat), n ≤ s.length → mor up s (q * s.length) + up < w + up → (w - mor up s (q * s.length)).toNat ≤ M → q ≤ 1000000 → q ≤ (mor up s (q * s.length)) → (∀ i, i < q * s.length + (s.length - n) → mor up s i + up < w) →
    ∃ r, DS up s w r ∧ Ev (fun k => impl_DaysWithSlips.l1 k up s w (mor up s (q * s.length + (s.length - n))) ((q * s.length + (s.length - n) : Nat) : Int) (mor up s (q * s.length)) s (s.length : Int) ((s.length - n : Nat) : Int)) r := by
  obtain ⟨g1, g2, g3⟩ := g
  have hw' := hw; unfold gw at hw'
  intro M
  induction M with
  | zero => intro n q h1 h3 h4; omega
  | succ M IH =>
    intro n
    induction n with
    | zero =>
      intro q h1 h3 h4 h5 h6 h7
      rw [Nat.sub_zero] at h7 ⊢
      have ej : q * s.length + s.length = (q + 1) * s.length := by rw [Nat.add_mul]; omega
      have hjb : ((q * s.length + s.length : Nat) : Int) ≤ 13000000 := by
        have : q * s.length ≤ 1000000 * 12 := Nat.mul_le_mul h5 (by omega)
        omega
      by_cases d : mor up s (q * s.length + s.length) ≤ mor up s (q * s.length)
      · refine ⟨(0, false), .inr ⟨rfl, mor_never up w s (by omega) (q * s.length) d h7⟩, ?_⟩
        refine Ev.step (f := fun _ => some (0, false)) (fun k => ?_) (Ev.now _)
        simp only [impl_DaysWithSlips.l1]
        rw [if_neg (by omega), if_pos d]
      · have e2 : q * s.length + s.length = (q * s.length + (s.length - 1)) + 1 := by omega
        have hlast := h7 (q * s.length + (s.length - 1)) (by omega)
        have hsl := sl_bd up s ⟨g1, g2, g3⟩ (q * s.length + (s.length - 1))
        have hm0 := (mor_bd up s ⟨g1, g2, g3⟩ (q * s.length + (s.length - 1))).1
        have e3 : mor up s (q * s.length + s.length) = max 0 (mor up s (q * s.length + (s.length - 1)) + up - sl s (q * s.length + (s.length - 1))) := by rw [e2]; rfl
        have := IH s.length (q + 1) (by omega) (by rw [← ej]; omega) (by rw [← ej]; omega) (by omega) (by rw [← ej]; omega) (by rw [← ej, Nat.sub_self, Nat.add_zero]; exact h7)
        obtain ⟨r, hr, hE⟩ := this
        refine ⟨r, hr, ?_⟩
        rw [← ej, Nat.sub_self, Nat.add_zero] at hE
        refine Ev.step (f := fun k => impl_DaysWithSlips.l0 k up s w (mor up s (q * s.length + s.length)) ((q * s.length + s.length : Nat) : Int)) (fun k => ?_) (Ev.step (fun k => ?_) hE)
        · simp only [impl_DaysWithSlips.l1]
          rw [if_neg (by omega), if_neg d]
        · simp only [impl_DaysWithSlips.l0]; rfl
    | succ n ih =>
      intro q h1 h3 h4 h5 h6 h7
      generalize hj : q * s.length + (s.length - (n + 1)) = j at *
      have hjb : (j : Int) ≤ 13000000 := by
        have : q * s.length ≤ 1000000 * 12 := Nat.mul_le_mul h5 (by omega)
        omega
      have hs := sl_bd up s ⟨g1, g2, g3⟩ j
      have hmb := mor_bd up s ⟨g1, g2, g3⟩ j
      have hmj : j % s.length = s.length - (n + 1) := by
        rw [← hj, Nat.mul_comm, Nat.mul_add_mod, Nat.mod_eq_of_lt (by omega)]
      by_cases c : mor up s j + up ≥ w
      · refine ⟨((j : Int) + 1, true), .inl ⟨j, rfl, c, h7⟩, ?_⟩
        refine Ev.step (f := fun _ => some ((j : Int) + 1, true)) (fun k => ?_) (Ev.now _)
        simp only [impl_DaysWithSlips.l1]
        rw [if_pos (by omega), if_pos (by omega), if_pos (by omega), w64 (mor up s j + up) (by omega) (by omega), if_pos c, w64 _ (by omega) (by omega)]
      · have e1 : mor up s (j + 1) = max 0 (mor up s j + up - sl s j) := rfl
        have h7' : ∀ i, i < j + 1 → mor up s i + up < w := by
          intro i hi
          rcases Nat.lt_or_ge i j with h | h
          · exact h7 i h
          · have : i = j := by omega
            subst this; omega
        obtain ⟨r, hr, hE⟩ := ih q (by omega) h3 h4 h5 h6 (by intro i hi; exact h7' i (by omega))
        refine ⟨r, hr, ?_⟩
        rw [show q * s.length + (s.length - n) = j + 1 by omega] at hE
        refine Ev.step (fun k => ?_) hE
        simp only [impl_DaysWithSlips.l1]
        rw [if_pos (by omega), if_pos (by omega), if_pos (by omega), w64 (mor up s j + up) (by omega) (by omega), if_neg c, rdn, ← hmj, show s.getD (j % s.length) 0 = sl s j from rfl, w64 (mor up s j + up - sl s j) (by omega) (by omega), w64 ((j : Int) + 1) (by omega) (by omega), w64 _ (by omega) (by omega)]
        have e2 : mx 0 (mor up s j + up - sl s j) = mor up s (j + 1) := by rw [e1]; unfold mx; omega
        rw [e2, hmj, show ((s.length - (n + 1) : Nat) : Int) + 1 = ((s.length - n : Nat) : Int) by omega, show (j : Int) + 1 = ((j + 1 : Nat) : Int) by omega]
theorem e_Dws (up : Int) (s : List Int) (w : Int) : ∃ r : Int × Bool, Ev (fun k => spec_DaysWithSlips.f k up s w) r ∧ Ev (fun k => impl_DaysWithSlips.f k up s w) r ∧ ((gs up s ∧ gw w) → DS up s w r) ∧ (¬ (gs up s ∧ gw w) → r = (0, false)) := by
  by_cases h : gs up s
  · by_cases h2 : gw w
    · have hw' := h2; unfold gw at hw'
      have hl := h.2.1
      obtain ⟨r, hr, hE⟩ := e_sDws_l0 up s w h h2 w.toNat s.length 0 (by omega) (by omega) (by simp [mor]; omega) (by simp [mor]) (by omega) (by simp [mor]) (by intro i hi; simp at hi)
      obtain ⟨r', hr', hE'⟩ := e_iDws_l1 up s w h h2 w.toNat s.length 0 (by omega) (by simp [mor]; omega) (by simp [mor]) (by omega) (by simp [mor]) (by intro i hi; simp at hi)
      have e := DS_one up s w r r' hr hr'
      subst e
      rw [Nat.sub_self, Nat.zero_mul] at hE hE'
      refine ⟨r, ?_, ?_, fun _ => hr, fun z => absurd ⟨h, h2⟩ z⟩
      · obtain ⟨K, hK⟩ := hE
        refine ⟨K + 30, fun k hk => ?_⟩
        obtain ⟨k, rfl⟩ : ∃ m, k = m + 1 := ⟨k - 1, by omega⟩
        show spec_DaysWithSlips.f (k + 1) up s w = _
        unfold spec_DaysWithSlips.f; rw [e_snSlips _ up s (by omega), e_snWall]
        simp only [Option.bind_some, decide_eq_true_eq, spec_DaysWithSlips.j0]
        rw [if_pos h, ← hK k (by omega)]; simp [h2, mor]
      · obtain ⟨K, hK⟩ := hE'
        refine ⟨K + 30, fun k hk => ?_⟩
        obtain ⟨k, rfl⟩ : ∃ m, k = m + 2 := ⟨k - 2, by omega⟩
        show impl_DaysWithSlips.f (k + 2) up s w = _
        unfold impl_DaysWithSlips.f; rw [e_areSlips _ up s (by omega), e_isWall]
        simp only [Option.bind_some, decide_eq_true_eq, impl_DaysWithSlips.j0, impl_DaysWithSlips.l0]
        rw [if_pos h, ← hK k (by omega)]; simp [h2, mor]
    · refine ⟨(0, false), ?_, ?_, fun z => absurd z.2 h2, fun _ => rfl⟩
      · refine ⟨30, fun k hk => ?_⟩
        obtain ⟨k, rfl⟩ : ∃ m, k = m + 1 := ⟨k - 1, by omega⟩
        show spec_DaysWithSlips.f (k + 1) up s w = _
        unfold spec_DaysWithSlips.f; rw [e_snSlips _ up s (by omega), e_snWall]
        simp [h, h2, spec_DaysWithSlips.j0]
      · refine ⟨30, fun k hk => ?_⟩
        obtain ⟨k, rfl⟩ : ∃ m, k = m + 1 := ⟨k - 1, by omega⟩
        show impl_DaysWithSlips.f (k + 1) up s w = _
        unfold impl_DaysWithSlips.f; rw [e_areSlips _ up s (by omega), e_isWall]
        simp [h, h2, impl_DaysWithSlips.j0]
  · refine ⟨(0, false), ?_, ?_, fun z => absurd z.1 h, fun _ => rfl⟩
    · refine ⟨30, fun k hk => ?_⟩
      obtain ⟨k, rfl⟩ : ∃ m, k = m + 1 := ⟨k - 1, by omega⟩
      show spec_DaysWithSlips.f (k + 1) up s w = _
      unfold spec_DaysWithSlips.f; rw [e_snSlips _ up s (by omega)]
      simp [h, spec_DaysWithSlips.j0]
    · refine ⟨30, fun k hk => ?_⟩
      obtain ⟨k, rfl⟩ : ∃ m, k = m + 1 := ⟨k - 1, by omega⟩
      show impl_DaysWithSlips.f (k + 1) up s w = _
      unfold impl_DaysWithSlips.f; rw [e_areSlips _ up s (by omega)]
      simp [h, impl_DaysWithSlips.j0]

/-- Evenings: rounds left, day, height in the morning. -/
def hL (up : Int) (s : List Int) (w : Int) : Nat → Nat → Int → List Int
  | 0, _, _ => []
  | n + 1, j, m => min w (m + up) :: hL up s w n (j + 1) (if min w (m + up) = w then w else max 0 (min w (m + up) - sl s j))
def hV (up : Int) (s : List Int) (w days : Int) : List Int × Bool := if (gs up s ∧ gw w) ∧ 1 ≤ days ∧ days ≤ 1000 then (hL up s w days.toNat 0 0, true) else ([], false)
theorem hL_len (up : Int) (s : List Int) (w : Int) : ∀ n j m, (hL up s w n j m).length = n := by
  intro n; induction n with
  | zero => intros; rfl
  | succ n ih => intros; simp [hL, ih]
theorem e_sHws_l0 (up : Int) (s : List Int) (w days : Int) (g : gs up s) (hw : gw w) (hd : days ≤ 1000) : ∀ (n j k : Nat) (m : Int) (acc : List Int), (j : Int) + n = days → 0 ≤ m → m ≤ w → acc.length = j → n < k → spec_HeightsWithSlips.l0 k up s w days m acc ((j : Int) + 1) = some (acc ++ hL up s w n j m, true) := by
  have g' := g
  obtain ⟨g1, g2, g3⟩ := g'
  have hw' := hw; unfold gw at hw'
  intro n
  induction n with
  | zero =>
    intro j k m acc h1 h2 h3 h4 hk
    obtain ⟨k, rfl, hk⟩ := round1 hk
    simp only [spec_HeightsWithSlips.l0, hL]
    rw [if_neg (by omega), List.append_nil]
  | succ n ih =>
    intro j k m acc h1 h2 h3 h4 hk
    obtain ⟨k, rfl, hk⟩ := round1 hk
    have hs := sl_bd up s g j
    have hm := Nat.mod_lt j (show s.length > 0 by omega)
    simp only [spec_HeightsWithSlips.l0, hL]
    rw [if_pos (by omega)]
    by_cases c : m < w
    · rw [if_pos c, w64 (m + up) (by omega) (by omega), e_l1Least]
      simp only [Option.bind_some]
      rw [if_pos (by omega)]
      by_cases d : min w (m + up) < w
      · rw [if_pos d, if_neg (by omega), w64 ((j : Int) + 1 - 1) (by omega) (by omega), show ((j : Int) + 1 - 1) = (j : Int) by omega, tmod_nat, if_pos (by omega), if_pos (by omega), rdn, show s.getD (j % s.length) 0 = sl s j from rfl, w64 (min w (m + up) - sl s j) (by omega) (by omega), e_l1Most]
        simp only [Option.bind_some]
        rw [w64 ((j : Int) + 1 + 1) (by omega) (by omega), show ((j : Int) + 1) = ((j + 1 : Nat) : Int) by omega, ih (j + 1) k _ _ (by omega) (by omega) (by omega) (by simp; omega) (by omega), if_neg (show ¬ min w (m + up) = w by omega)]
        simp
      · rw [if_neg d, w64 ((j : Int) + 1 + 1) (by omega) (by omega), show ((j : Int) + 1) = ((j + 1 : Nat) : Int) by omega, ih (j + 1) k _ _ (by omega) (by omega) (by omega) (by simp; omega) (by omega), if_pos (show min w (m + up) = w by omega)]
        rw [show min w (m + up) = w by omega]; simp
    · have e : m = w := by omega
      subst e
      rw [if_neg c, if_pos (by omega), w64 ((j : Int) + 1 + 1) (by omega) (by omega), show ((j : Int) + 1) = ((j + 1 : Nat) : Int) by omega, ih (j + 1) k _ _ (by omega) (by omega) (by omega) (by simp; omega) (by omega), if_pos (show min m (m + up) = m by omega)]
      rw [show min m (m + up) = m by omega]; simp
theorem e_sHws (k : Nat) (up : Int) (s : List Int) (w days : Int) (hk : 2000 < k) : spec_HeightsWithSlips.f k up s w days = some (hV up s w days) := by
  obtain ⟨k, rfl⟩ : ∃ m, k = m + 1 := ⟨k - 1, by omega⟩
  unfold spec_HeightsWithSlips.f hV; rw [e_snSlips _ up s (by omega), e_snWall, e_l1In]; simp only [Option.bind_some, decide_eq_true_eq, spec_HeightsWithSlips.j0]
  by_cases h : gs up s <;> by_cases h2 : gw w <;> by_cases h3 : 1 ≤ days ∧ days ≤ 1000 <;> simp [h, h2, h3]
  have h4 := h2; unfold gw at h4
  have := e_sHws_l0 up s w days h h2 (by omega) days.toNat 0 k 0 [] (by omega) (by omega) (by omega) (by simp) (by omega)
  simpa using this
theorem rep_set (pre : List Int) (n : Nat) (v : Int) : (pre ++ List.replicate (n + 1) 0).set pre.length v = (pre ++ [v]) ++ List.replicate n 0 := by
  rw [List.set_append_right _ _ (by omega), Nat.sub_self, List.replicate_succ, List.set_cons_zero]; simp
theorem rd_mid (pre : List Int) (v : Int) (t : List Int) : rd ((pre ++ [v]) ++ t) (pre.length : Int) = v := by
  rw [rdn]; simp [List.getD_eq_getElem?_getD]
theorem e_iHws_l0 (up : Int) (s : List Int) (w days : Int) (g : gs up s) (hw : gw w) (hd : days ≤ 1000) : ∀ (n k : Nat) (m : Int) (acc : List Int), (acc.length : Int) + n = days → 0 ≤ m → m ≤ w → n < k → impl_HeightsWithSlips.l0 k up s w (acc ++ List.replicate n 0) m days (acc.length : Int) = some (acc ++ hL up s w n acc.length m, true) := by
  have g' := g
  obtain ⟨g1, g2, g3⟩ := g'
  have hw' := hw; unfold gw at hw'
  intro n
  induction n with
  | zero =>
    intro k m acc h1 h2 h3 hk
    obtain ⟨k, rfl, hk⟩ := round1 hk
    simp only [impl_HeightsWithSlips.l0, hL]
    rw [if_neg (by omega)]; simp
  | succ n ih =>
    intro k m acc h1 h2 h3 hk
    obtain ⟨k, rfl, hk⟩ := round1 hk
    have hs := sl_bd up s g acc.length
    have hm := Nat.mod_lt acc.length (show s.length > 0 by omega)
    have e0 : mn w (m + up) = min w (m + up) := by unfold mn; omega
    simp only [impl_HeightsWithSlips.l0, hL]
    rw [if_pos (by omega), if_pos (by omega), if_pos (by simp; omega), w64 (m + up) (by omega) (by omega), e0, show ((acc.length : Int)).toNat = acc.length by omega, rep_set]
    simp only [Option.bind_some]
    rw [if_neg (by omega), tmod_nat, if_pos (by omega), if_pos (by omega), rd_mid, rdn, show s.getD (acc.length % s.length) 0 = sl s acc.length from rfl, w64 (min w (m + up) - sl s acc.length) (by omega) (by omega), w64 ((acc.length : Int) + 1) (by omega) (by omega)]
    have e1 : mx 0 (min w (m + up) - sl s acc.length) = max 0 (min w (m + up) - sl s acc.length) := by unfold mx; omega
    have e2 : (acc.length : Int) + 1 = ((acc ++ [min w (m + up)]).length : Int) := by simp
    rw [e1, e2]
    by_cases d : min w (m + up) = w
    · rw [if_pos d, if_pos d, ih k w (acc ++ [min w (m + up)]) (by simp; omega) (by omega) (by omega) (by omega)]
      simp
    · rw [if_neg d, if_neg d, ih k _ (acc ++ [min w (m + up)]) (by simp; omega) (by omega) (by omega) (by omega)]
      simp
theorem e_iHws (k : Nat) (up : Int) (s : List Int) (w days : Int) (hk : 2000 < k) : impl_HeightsWithSlips.f k up s w days = some (hV up s w days) := by
  obtain ⟨k, rfl⟩ : ∃ m, k = m + 1 := ⟨k - 1, by omega⟩
  unfold impl_HeightsWithSlips.f hV; rw [e_areSlips _ up s (by omega), e_isWall, e_within]; simp only [Option.bind_some, decide_eq_true_eq, impl_HeightsWithSlips.j0]
  by_cases h : gs up s <;> by_cases h2 : gw w <;> by_cases h3 : 1 ≤ days ∧ days ≤ 1000 <;> simp [h, h2, h3]
  have h4 := h2; unfold gw at h4
  have := e_iHws_l0 up s w days h h2 (by omega) days.toNat k 0 [] (by simp; omega) (by omega) (by omega) (by omega)
  refine ⟨by omega, by omega, ?_⟩
  rw [show max days 0 = days by omega]
  simpa using this
def whoV (u d u' d' w : Int) : Int × Bool := if (gd u d ∧ gw w) ∧ gd u' d' then (if dayH u d w = 0 ∧ dayH u' d' w = 0 then (0, false) else if dayH u d w = dayH u' d' w then (0, true) else if dayH u d w > 0 ∧ (dayH u' d' w = 0 ∨ dayH u d w < dayH u' d' w) then (1, true) else (2, true)) else (0, false)
theorem e_iWhoWins (k : Nat) (u d u' d' w : Int) (hk : 3 ≤ k) : impl_WhoWins.f k u d u' d' w = some (whoV u d u' d' w) := by
  obtain ⟨k, rfl⟩ : ∃ m, k = m + 3 := ⟨k - 3, by omega⟩
  unfold impl_WhoWins.f whoV; rw [e_isWalled, e_iIsSnail]; simp only [Option.bind_some, decide_eq_true_eq, impl_WhoWins.j0]
  by_cases h : gd u d ∧ gw w <;> by_cases h1 : gd u' d' <;> simp [h, h1]
  have hw : w ≤ 1000000 := by have := h.2; unfold gw at this; omega
  rw [e_dayOfHeight u d w h.1 hw, e_dayOfHeight u' d' w h1 hw]; simp only [Option.bind_some]
  have b1 := dayH_bd u d w h.1 hw
  have b2 := dayH_bd u' d' w h1 hw
  generalize dayH u d w = a at *
  generalize dayH u' d' w = b at *
  by_cases c1 : a = 0 <;> by_cases c2 : b = 0 <;> by_cases c3 : a = b <;> by_cases c4 : a < b <;> simp [impl_WhoWins.j1, c1, c2, c3, c4] <;> (try omega) <;> (try (split <;> simp <;> omega)) <;> (try (rw [if_pos (by omega)])) <;> (try simp_all) <;> (try omega)
theorem e_sWhoWins (k : Nat) (u d u' d' w : Int) (hk : 3 ≤ k) : spec_WhoWins.f k u d u' d' w = some (whoV u d u' d' w) := by
  obtain ⟨k, rfl⟩ : ∃ m, k = m + 3 := ⟨k - 3, by omega⟩
  unfold spec_WhoWins.f whoV; rw [e_snTwo]; simp only [Option.bind_some, decide_eq_true_eq, spec_WhoWins.j0, e_snCan]
  by_cases h : gd u d ∧ gw w
  · by_cases h1 : gd u' d'
    · have hw : w ≤ 1000000 := by have := h.2; unfold gw at this; omega
      have b1 := dayH_bd u d w h.1 hw
      have b2 := dayH_bd u' d' w h1 hw
      rw [if_pos ⟨h, h1⟩, if_pos (show (gd u d ∧ gw w) ∧ gd u' d' from ⟨h, h1⟩)]
      by_cases c1 : 0 < dayH u d w
      · by_cases c2 : 0 < dayH u' d' w
        · rw [if_pos c1, e_snDays u d w h.1 hw ((dayH_pos u d w).mp c1), e_snDays u' d' w h1 hw ((dayH_pos u' d' w).mp c2)]
          simp only [Option.bind_some, c1, c2, decide_true, if_true]
          rw [if_neg (by decide), if_neg (show ¬ (dayH u d w = 0 ∧ dayH u' d' w = 0) by omega)]
          by_cases c3 : dayH u d w < dayH u' d' w
          · rw [if_pos c3, if_neg (show ¬ dayH u d w = dayH u' d' w by omega)]; simp only [true_and]; rw [if_pos (by omega)]
          · rw [if_neg c3]
            by_cases c4 : dayH u' d' w < dayH u d w
            · rw [if_pos c4, if_neg (show ¬ dayH u d w = dayH u' d' w by omega), if_neg (by omega)]
            · rw [if_neg c4, if_pos (show dayH u d w = dayH u' d' w by omega)]
        · rw [if_pos c1]
          simp only [c2, decide_false]
          rw [if_neg (by decide), if_neg (by decide), if_neg (show ¬ (dayH u d w = 0 ∧ dayH u' d' w = 0) by omega), if_neg (show ¬ dayH u d w = dayH u' d' w by omega), if_pos (by omega)]
      · rw [if_neg c1]
        by_cases c2 : 0 < dayH u' d' w
        · simp only [c1, c2, decide_true, decide_false, Bool.not_true, if_true, if_false, Bool.false_eq_true, false_and]
          rw [if_neg (show ¬ (dayH u d w = 0 ∧ dayH u' d' w = 0) by omega), if_neg (show ¬ dayH u d w = dayH u' d' w by omega)]
        · simp only [c2, decide_false]
          rw [if_pos (by decide), if_pos (show dayH u d w = 0 ∧ dayH u' d' w = 0 by omega)]
    · rw [if_neg (fun z => h1 z.2), if_neg (show ¬ ((gd u d ∧ gw w) ∧ gd u' d') from fun z => h1 z.2)]
  · rw [if_neg (fun z => h z.1), if_neg (show ¬ ((gd u d ∧ gw w) ∧ gd u' d') from fun z => h z.1)]
/-- Changes of the lead: rounds left, day, the last sign, changes so far. -/
def lcL (f : Int → Int) : Nat → Int → Int → Int → Int
  | 0, _, _, c => c
  | n + 1, day, b, c => if f day = 0 then lcL f n (day + 1) b c else if b ≠ 0 ∧ f day ≠ b then lcL f n (day + 1) (f day) (c + 1) else lcL f n (day + 1) (f day) c
def sgn (x : Int) : Int := if x > 0 then 1 else if x < 0 then -1 else 0
def lsgn (u d u' d' w day : Int) : Int := sgn (min w (reach u d day) - min w (reach u' d' day))
theorem sgn_bd (x : Int) : -1 ≤ sgn x ∧ sgn x ≤ 1 := by unfold sgn; split <;> (try split) <;> omega
def lastL (u d u' d' w : Int) : Int := if dayH u d w = 0 ∨ dayH u' d' w = 0 then max (dayH u d w) (dayH u' d' w) else min (dayH u d w) (dayH u' d' w)
def lcV (u d u' d' w : Int) : Int × Bool := if (gd u d ∧ gw w) ∧ gd u' d' then (if lastL u d u' d' w = 0 then (0, false) else (lcL (lsgn u d u' d' w) (lastL u d u' d' w).toNat 1 0 0, true)) else (0, false)
theorem e_cmp (a b : Int) : cmp_Compare_int.f a b = some (sgn (a - b)) := by
  unfold cmp_Compare_int.f cmp_isNaN_int.f sgn
  simp only [bne_self_eq_false, Option.bind_some, Bool.false_eq_true, if_false]
  by_cases h : a < b
  · rw [if_pos h, if_neg (by omega), if_pos (by omega)]
  · by_cases h2 : a > b
    · rw [if_neg h, if_pos h2, if_pos (by omega)]
    · rw [if_neg h, if_neg h2, if_neg (by omega), if_neg (by omega)]
theorem e_iLc_l0 (u d u' d' w : Int) (g : gd u d) (g' : gd u' d') (hw : gw w) (last : Int) (hl : last ≤ 1000000) : ∀ (n : Nat) (day b c : Int) (k : Nat), day + n = last + 1 → 1 ≤ day → -1 ≤ b → b ≤ 1 → 0 ≤ c → c ≤ day → n < k → impl_LeadChanges.l0 k w last c b day u d u' d' = some (lcL (lsgn u d u' d' w) n day b c, true) := by
  intro n
  induction n with
  | zero =>
    intro day b c k h1 h2 h3 h4 h5 h6 hk
    obtain ⟨k, rfl, hk⟩ := round1 hk
    simp only [impl_LeadChanges.l0, lcL]; rw [if_neg (by omega)]
  | succ n ih =>
    intro day b c k h1 h2 h3 h4 h5 h6 hk
    obtain ⟨k, rfl, hk⟩ := round1 hk
    have hd : gw day := by unfold gw; omega
    simp only [impl_LeadChanges.l0, lcL]
    rw [if_pos (by omega), e_eveningHeight u d w day g hd, e_eveningHeight u' d' w day g' hd]
    simp only [Option.bind_some]
    rw [e_cmp]; simp only [Option.bind_some]
    have sb := sgn_bd (min w (reach u d day) - min w (reach u' d' day))
    rw [show sgn (min w (reach u d day) - min w (reach u' d' day)) = lsgn u d u' d' w day from rfl] at sb ⊢
    generalize lsgn u d u' d' w day = x at *
    rw [w64 (day + 1) (by omega) (by omega), w64 (-x) (by omega) (by omega), w64 (c + 1) (by omega) (by omega)]
    by_cases c1 : x = 0
    · rw [if_pos c1, if_pos c1]; exact ih (day + 1) b c k (by omega) (by omega) h3 h4 h5 (by omega) (by omega)
    · rw [if_neg c1, if_neg c1]
      by_cases c2 : b = -x
      · rw [if_pos c2, if_pos (by omega)]; exact ih (day + 1) x (c + 1) k (by omega) (by omega) (by omega) (by omega) (by omega) (by omega) (by omega)
      · rw [if_neg c2, if_neg (by omega)]; exact ih (day + 1) x c k (by omega) (by omega) (by omega) (by omega) h5 (by omega) (by omega)
theorem top_le (u d w : Int) (g : gd u d) (hw : gw w) : dayH u d w ≤ 1000000 := by
  unfold gd at g; unfold gw at hw; unfold dayH
  split
  · omega
  · split
    · omega
    · have := (ceil_le (w - u) (u - d) 999999 (by omega)).mpr (by have := mul_bd 999999 (u - d) 999999 1000 (by omega) (by omega) (by omega) (by omega); omega)
      omega
theorem e_iLeadChanges (k : Nat) (u d u' d' w : Int) (hk : 3000000 ≤ k) : impl_LeadChanges.f k u d u' d' w = some (lcV u d u' d' w) := by
  obtain ⟨k, rfl⟩ : ∃ m, k = m + 3 := ⟨k - 3, by omega⟩
  unfold impl_LeadChanges.f lcV; rw [e_isWalled, e_iIsSnail]; simp only [Option.bind_some, decide_eq_true_eq, impl_LeadChanges.j0]
  by_cases c : gd u d ∧ gw w
  · by_cases c1 : gd u' d'
    · have hw' := c.2; unfold gw at hw'
      have b1 := dayH_bd u d w c.1 (by omega)
      have b2 := dayH_bd u' d' w c1 (by omega)
      have t1 := top_le u d w c.1 c.2
      have t2 := top_le u' d' w c1 c.2
      rw [if_pos c, if_pos (show (gd u d ∧ gw w) ∧ gd u' d' from ⟨c, c1⟩), e_dayOfHeight u d w c.1 (by omega), e_dayOfHeight u' d' w c1 (by omega)]
      simp only [Option.bind_some, c1, decide_true, Bool.not_true, Bool.false_eq_true, if_false]
      have e1 : mn (dayH u d w) (dayH u' d' w) = min (dayH u d w) (dayH u' d' w) := by unfold mn; omega
      have e2 : mx (dayH u d w) (dayH u' d' w) = max (dayH u d w) (dayH u' d' w) := by unfold mx; omega
      have e3 : (if dayH u d w = 0 then impl_LeadChanges.j1 (k + 2) w (dayH u d w) (dayH u' d' w) (mn (dayH u d w) (dayH u' d' w)) true u d u' d' else impl_LeadChanges.j1 (k + 2) w (dayH u d w) (dayH u' d' w) (mn (dayH u d w) (dayH u' d' w)) (dayH u' d' w == 0) u d u' d') = impl_LeadChanges.j2 (k + 1) w (lastL u d u' d' w) u d u' d' := by
        unfold lastL
        by_cases z1 : dayH u d w = 0
        · rw [if_pos z1, if_pos (Or.inl z1)]; simp only [impl_LeadChanges.j1, if_true]; rw [e2]
        · by_cases z2 : dayH u' d' w = 0
          · rw [if_neg z1, if_pos (Or.inr z2)]; simp only [impl_LeadChanges.j1, z2, beq_self_eq_true, if_true]; rw [z2] at e2; rw [e2]
          · rw [if_neg z1, if_neg (show ¬ (dayH u d w = 0 ∨ dayH u' d' w = 0) by omega)]
            have : (dayH u' d' w == 0) = false := by simp [z2]
            simp only [impl_LeadChanges.j1, this, Bool.false_eq_true, if_false]; rw [e1]
      rw [e3]
      have lb : 0 ≤ lastL u d u' d' w ∧ lastL u d u' d' w ≤ 1000000 := by unfold lastL; split <;> omega
      simp only [impl_LeadChanges.j2]
      by_cases z : lastL u d u' d' w = 0
      · rw [if_pos z, if_pos z]
      · rw [if_neg z, if_neg z, e_iLc_l0 u d u' d' w c.1 c1 c.2 (lastL u d u' d' w) lb.2 (lastL u d u' d' w).toNat 1 0 0 k (by omega) (by omega) (by omega) (by omega) (by omega) (by omega) (by omega)]
    · simp [c, c1]
  · simp [c]
theorem e_l1Sign (a : Int) : spec_l1Sign.f a = some (sgn a) := by
  unfold spec_l1Sign.f sgn; split
  · rfl
  · split <;> rfl
theorem e_sLc_l0 (u d u' d' w : Int) (g : gd u d) (g' : gd u' d') (hw : gw w) (last : Int) (hl : last ≤ 1000000) : ∀ (n : Nat) (day b c : Int) (k : Nat), day + n = last + 1 → 1 ≤ day → -1 ≤ b → b ≤ 1 → 0 ≤ c → c ≤ day → n < k → spec_LeadChanges.l0 k w last c b day u d u' d' = some (lcL (lsgn u d u' d' w) n day b c, true) := by
  have hw' := hw; unfold gw at hw'
  intro n
  induction n with
  | zero =>
    intro day b c k h1 h2 h3 h4 h5 h6 hk
    obtain ⟨k, rfl, hk⟩ := round1 hk
    simp only [spec_LeadChanges.l0, lcL]; rw [if_neg (by omega)]
  | succ n ih =>
    intro day b c k h1 h2 h3 h4 h5 h6 hk
    obtain ⟨k, rfl, hk⟩ := round1 hk
    have hd : gw day := by unfold gw; omega
    have r1 := reach_bd u d day g hd
    have r2 := reach_bd u' d' day g' hd
    have g1 := g; have g2 := g'; unfold gd at g1 g2
    simp only [spec_LeadChanges.l0, lcL]
    rw [if_pos (by omega), e_snEvening u d day g hd, e_snEvening u' d' day g' hd]
    simp only [Option.bind_some, e_l1Least]
    rw [w64 (min w (reach u d day) - min w (reach u' d' day)) (by omega) (by omega), e_l1Sign]; simp only [Option.bind_some]
    have sb := sgn_bd (min w (reach u d day) - min w (reach u' d' day))
    rw [show sgn (min w (reach u d day) - min w (reach u' d' day)) = lsgn u d u' d' w day from rfl] at sb ⊢
    generalize lsgn u d u' d' w day = x at *
    rw [w64 (day + 1) (by omega) (by omega), w64 (c + 1) (by omega) (by omega)]
    by_cases c1 : x = 0
    · rw [if_pos c1, if_pos c1]; exact ih (day + 1) b c k (by omega) (by omega) h3 h4 h5 (by omega) (by omega)
    · rw [if_neg c1, if_neg c1]
      by_cases c3 : b = 0
      · rw [if_pos c3, if_neg (by omega)]; exact ih (day + 1) x c k (by omega) (by omega) (by omega) (by omega) h5 (by omega) (by omega)
      · by_cases c2 : x = b
        · rw [if_neg c3, if_pos c2, if_neg (by omega)]; exact ih (day + 1) x c k (by omega) (by omega) (by omega) (by omega) h5 (by omega) (by omega)
        · rw [if_neg c3, if_neg c2, if_pos ⟨c3, c2⟩]; exact ih (day + 1) x (c + 1) k (by omega) (by omega) (by omega) (by omega) (by omega) (by omega) (by omega)
theorem e_sLeadChanges (k : Nat) (u d u' d' w : Int) (hk : 3000000 ≤ k) : spec_LeadChanges.f k u d u' d' w = some (lcV u d u' d' w) := by
  obtain ⟨k, rfl⟩ : ∃ m, k = m + 3 := ⟨k - 3, by omega⟩
  unfold spec_LeadChanges.f lcV; rw [e_snTwo]; simp only [Option.bind_some, decide_eq_true_eq, e_snCan]
  by_cases c : gd u d ∧ gw w
  · by_cases c1 : gd u' d'
    · have hw' := c.2; unfold gw at hw'
      have b1 := dayH_bd u d w c.1 (by omega)
      have b2 := dayH_bd u' d' w c1 (by omega)
      have t1 := top_le u d w c.1 c.2
      have t2 := top_le u' d' w c1 c.2
      have p1 := dayH_pos u d w
      have p2 := dayH_pos u' d' w
      rw [if_pos (show (gd u d ∧ gw w) ∧ gd u' d' from ⟨c, c1⟩), if_pos (show (gd u d ∧ gw w) ∧ gd u' d' from ⟨c, c1⟩)]
      have e2 : ∀ last, 1 ≤ last → last ≤ 1000000 → spec_LeadChanges.j2 (k + 1) w last u d u' d' = some (lcL (lsgn u d u' d' w) last.toNat 1 0 0, true) := fun last h1 h2 => by
        simp only [spec_LeadChanges.j2]
        exact e_sLc_l0 u d u' d' w c.1 c1 c.2 last h2 last.toNat 1 0 0 k (by omega) (by omega) (by omega) (by omega) (by omega) (by omega) (by omega)
      have e1 : ∀ last, 1 ≤ last → last ≤ 1000000 → spec_LeadChanges.j1 (k + 2) w last u d u' d' = some (lcL (lsgn u d u' d' w) (if 0 < dayH u' d' w then min last (dayH u' d' w) else last).toNat 1 0 0, true) := fun last h1 h2 => by
        simp only [spec_LeadChanges.j1, e_snCan, Option.bind_some, decide_eq_true_eq]
        by_cases z : 0 < dayH u' d' w
        · rw [if_pos z, if_pos z, e_snDays u' d' w c1 (by omega) (p2.mp z)]
          simp only [Option.bind_some, e_l1Least]
          exact e2 _ (by omega) (by omega)
        · rw [if_neg z, if_neg z]; exact e2 _ h1 h2
      by_cases z1 : 0 < dayH u d w
      · rw [if_pos z1]
        simp only [spec_LeadChanges.j0, Bool.false_eq_true, if_false, e_snCan, Option.bind_some, decide_eq_true_eq]
        rw [if_pos z1, e_snDays u d w c.1 (by omega) (p1.mp z1)]
        simp only [Option.bind_some]
        rw [e1 _ (by omega) t1]
        have : lastL u d u' d' w = (if 0 < dayH u' d' w then min (dayH u d w) (dayH u' d' w) else dayH u d w) := by unfold lastL; split <;> split <;> omega
        have nz : ¬ lastL u d u' d' w = 0 := by rw [this]; split <;> omega
        rw [if_neg nz, this]
      · rw [if_neg z1]
        by_cases z2 : 0 < dayH u' d' w
        · simp only [z2, decide_true, Bool.not_true, spec_LeadChanges.j0, Bool.false_eq_true, if_false, e_snCan, Option.bind_some, decide_eq_true_eq]
          rw [if_neg z1, e1 _ (by omega) (by omega)]
          have : lastL u d u' d' w = (if 0 < dayH u' d' w then min 1000000 (dayH u' d' w) else 1000000) := by unfold lastL; rw [if_pos (by omega), if_pos z2]; omega
          have nz : ¬ lastL u d u' d' w = 0 := by rw [this]; split <;> omega
          rw [if_neg nz, this]
        · simp only [z2, decide_false, Bool.not_false, spec_LeadChanges.j0, if_true]
          have : lastL u d u' d' w = 0 := by unfold lastL; rw [if_pos (by omega)]; omega
          rw [if_pos this]
    · rw [if_neg (show ¬ ((gd u d ∧ gw w) ∧ gd u' d') from fun z => c1 z.2), if_neg (show ¬ ((gd u d ∧ gw w) ∧ gd u' d') from fun z => c1 z.2)]; simp only [spec_LeadChanges.j0, if_true]
  · rw [if_neg (show ¬ ((gd u d ∧ gw w) ∧ gd u' d') from fun z => c z.1), if_neg (show ¬ ((gd u d ∧ gw w) ∧ gd u' d') from fun z => c z.1)]; simp only [spec_LeadChanges.j0, if_true]

def gtr (lap p s : Int) : Prop := (2 ≤ lap ∧ lap ≤ 1000) ∧ (0 ≤ p ∧ p ≤ lap - 1) ∧ 1 ≤ s ∧ s ≤ 100
instance (lap p s : Int) : Decidable (gtr lap p s) := by unfold gtr; infer_instance
def grt (t : Int) : Prop := 0 ≤ t ∧ t ≤ 1000000
instance (t : Int) : Decidable (grt t) := by unfold grt; infer_instance
def glp (t : Int) : Prop := 1 ≤ t ∧ t ≤ 100
instance (t : Int) : Decidable (glp t) := by unfold glp; infer_instance
theorem evs {α : Type} {g f : Nat → Option α} {r : α} (K : Nat) (h : ∀ k, K ≤ k → g (k + 1) = f k) (k : Ev f r) : Ev g r := by
  obtain ⟨K', k⟩ := k
  refine ⟨max K K' + 1, fun n hn => ?_⟩
  obtain ⟨m, rfl⟩ : ∃ m, n = m + 1 := ⟨n - 1, by omega⟩
  rw [h m (by omega)]
  exact k m (by omega)
theorem low_neg (a b : Int) (hb : b ≠ 0) : lowN (-a) (-b) = lowN a b ∧ lowD (-a) (-b) = lowD a b := by
  have e : Int.gcd (-a) (-b) = Int.gcd a b := by simp [Int.gcd]
  unfold lowN lowD
  rw [e]
  by_cases h : b < 0
  · rw [if_pos h, if_pos h, if_neg (by omega), if_neg (by omega)]; exact ⟨rfl, rfl⟩
  · rw [if_neg h, if_neg h, if_pos (by omega), if_pos (by omega), Int.neg_neg, Int.neg_neg]; exact ⟨rfl, rfl⟩
theorem meet_sym (p s p' s' : Int) : meetV p s p' s' = meetV p' s' p s := by
  unfold meetV
  by_cases h : p = p'
  · rw [if_pos h, if_pos h.symm]
  · by_cases h2 : s = s'
    · rw [if_neg h, if_neg (fun z : p' = p => h z.symm), if_pos h2, if_pos h2.symm]
    · have q := low_neg (p' - p) (s - s') (by omega)
      rw [show -(p' - p) = p - p' by omega, show -(s - s') = s' - s by omega] at q
      rw [if_neg h, if_neg (fun z : p' = p => h z.symm), if_neg h2, if_neg (fun z : s' = s => h2 z.symm), q.1, q.2]
theorem low_cross (a b : Int) (hb : b ≠ 0) : lowN a b * b = lowD a b * a := by
  have hg := gcd_pos a b hb
  obtain ⟨u, hu⟩ : (Int.gcd a b : Int) ∣ a := Int.gcd_dvd_left ..
  obtain ⟨v, hv⟩ : (Int.gcd a b : Int) ∣ b := Int.gcd_dvd_right ..
  unfold lowN lowD
  generalize (Int.gcd a b : Int) = g at *
  subst hu hv
  by_cases h : g * v < 0
  · rw [if_pos h, if_pos h, show -(g * u) = g * (-u) by rw [Int.mul_neg], show -(g * v) = g * (-v) by rw [Int.mul_neg], Int.mul_ediv_cancel_left _ (by omega), Int.mul_ediv_cancel_left _ (by omega)]
    rw [Int.neg_mul, Int.neg_mul, Int.mul_left_comm u g v, Int.mul_left_comm v g u, Int.mul_comm u v]
  · rw [if_neg h, if_neg h, Int.mul_ediv_cancel_left _ (by omega), Int.mul_ediv_cancel_left _ (by omega)]
    rw [Int.mul_left_comm u g v, Int.mul_left_comm v g u, Int.mul_comm u v]
/-- Where they meet: the time times the difference of speeds is the gap. -/
theorem meet_cross (p s p' s' : Int) (h : (meetV p s p' s').2.2 = true) (hp : p ≠ p') : (meetV p s p' s').1 * (s - s') = (meetV p s p' s').2.1 * (p' - p) ∧ s ≠ s' := by
  unfold meetV at h ⊢
  rw [if_neg hp] at h ⊢
  by_cases h2 : s = s'
  · rw [if_pos h2] at h; simp at h
  · rw [if_neg h2] at h ⊢
    by_cases h3 : lowN (p' - p) (s - s') < 0
    · rw [if_pos h3] at h; simp at h
    · rw [if_neg h3]
      exact ⟨low_cross _ _ (by omega), h2⟩
/-- One that is faster and behind is met. -/
theorem meet_ok (p s p' s' : Int) (hp : p < p') (hs : s > s') : (meetV p s p' s').2.2 = true := by
  unfold meetV
  have q := lowN_neg (p' - p) (s - s') (by omega)
  rw [if_neg (by omega), if_neg (by omega), if_neg]
  intro z
  have := q.mp z
  rw [if_neg (by omega)] at this
  omega
theorem mul_pos' {a b : Int} (ha : 0 < a) (hb : 0 < b) : 0 < a * b := Int.mul_pos ha hb
/-- a/b ≤ x/y and x/y ≤ u/v. -/
theorem frac_trans (a b x y u v : Int) (hb : 0 < b) (hy : 0 < y) (hv : 0 < v) (h1 : a * y ≤ x * b) (h2 : x * v ≤ u * y) : a * v ≤ u * b := by
  have e1 : a * y * v ≤ x * b * v := Int.mul_le_mul_of_nonneg_right h1 (by omega)
  have e2 : x * v * b ≤ u * y * b := Int.mul_le_mul_of_nonneg_right h2 (by omega)
  have e3 : (a * v) * y ≤ (u * b) * y := by
    rw [show (a * v) * y = a * y * v by rw [Int.mul_right_comm], show (u * b) * y = u * y * b by rw [Int.mul_right_comm]]
    rw [show x * b * v = x * v * b by rw [Int.mul_right_comm]] at e1
    omega
  exact Int.le_of_mul_le_mul_right e3 hy
theorem pure_is_here : True := trivial
end Go.Proofs.Ytbbglmoenjdloaa.Pure
