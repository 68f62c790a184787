/- The pure statement of the law FnExactTimesPassed: what the program's function computes is what the reference's computes. -/
import Derived.Test.YtbbglmoenjdloaaPFnExactTimesPassedx2
namespace Go.Proofs.Ytbbglmoenjdloaa.Pure
open Go.RowKit Go.Proofs.Ytbbglmoenjdloaa.PFnExactTimesPassed Go.Proofs.YtbbglmoenjdloaaW.PrintWords Go.Proofs.YtbbglmoenjdloaaW.PrintLast Go.Proofs.YtbbglmoenjdloaaW.PrintMore
set_option linter.unusedVariables false
set_option linter.unusedSimpArgs false
theorem w64 (n : Int) (h1 : -9223372036854775808 ≤ n) (h2 : n ≤ 9223372036854775807) : wrap64 n = n := by unfold wrap64; omega
theorem dec_and (p q : Prop) [Decidable p] [Decidable q] [Decidable (p ∧ q)] : (if p then some (decide q) else some false) = some (decide (p ∧ q)) := by
  by_cases h : p <;> by_cases h' : q <;> simp [h, h']
theorem le_cases (a b c : Int) : (if a ≥ b then some (decide (a ≤ c)) else some false) = some (decide (b ≤ a ∧ a ≤ c)) := by
  by_cases h : b ≤ a <;> by_cases h' : a ≤ c <;> simp [h, h']
def gd (u d : Int) : Prop := 1 ≤ u ∧ u ≤ 1000 ∧ 0 ≤ d ∧ d ≤ 1000
instance (u d : Int) : Decidable (gd u d) := by unfold gd; infer_instance
def gk (p s : Int) : Prop := -1000 ≤ p ∧ p ≤ 1000 ∧ -100 ≤ s ∧ s ≤ 100
instance (p s : Int) : Decidable (gk p s) := by unfold gk; infer_instance
def gw (w : Int) : Prop := 1 ≤ w ∧ w ≤ 1000000
instance (w : Int) : Decidable (gw w) := by unfold gw; infer_instance
def reach (u d day : Int) : Int := if u ≤ d then u else u + (day - 1) * (u - d)
def dayH (u d h : Int) : Int := if h ≤ u then 1 else if u ≤ d then 0 else 1 + (h - u + (u - d) - 1) / (u - d)
theorem mul_bd (a b A B : Int) (h1 : 0 ≤ a) (h2 : a ≤ A) (h3 : 0 ≤ b) (h4 : b ≤ B) : 0 ≤ a * b ∧ a * b ≤ A * B :=
  ⟨Int.mul_nonneg h1 h3, Int.mul_le_mul h2 h4 h3 (by omega)⟩
theorem reach_bd (u d day : Int) (g : gd u d) (w : gw day) : u ≤ reach u d day ∧ reach u d day ≤ 1000000000 := by
  unfold gd at g; unfold gw at w; unfold reach
  split
  · omega
  · have := mul_bd (day - 1) (u - d) 999999 1000 (by omega) (by omega) (by omega) (by omega)
    omega
theorem div_bd (x g : Int) (hg : 1 ≤ g) (hx : 0 ≤ x) : 0 ≤ x / g ∧ x / g ≤ x :=
  ⟨Int.ediv_nonneg hx (by omega), Int.ediv_le_self _ hx⟩
theorem dayH_bd (u d h : Int) (g : gd u d) (hh : h ≤ 1000000) : 0 ≤ dayH u d h ∧ dayH u d h ≤ 1001000 := by
  unfold gd at g; unfold dayH
  split
  · omega
  · split
    · omega
    · have := div_bd (h - u + (u - d) - 1) (u - d) (by omega) (by omega)
      omega
theorem ceil_le (x g n : Int) (hg : 1 ≤ g) : (x + g - 1) / g ≤ n ↔ x ≤ n * g := by
  have h : (x + g - 1) / g < n + 1 ↔ x + g - 1 < (n + 1) * g := Int.ediv_lt_iff_lt_mul (by omega)
  have e : (n + 1) * g = n * g + g := by rw [Int.add_mul, Int.one_mul]
  rw [e] at h
  constructor
  · intro k; have := h.mp (by omega); omega
  · intro k; have := h.mpr (by omega); omega
/-- The day is reached at the end of a day just if that day is not before it. -/
theorem dayH_le (u d h day : Int) (hd : 1 ≤ day) : (0 < dayH u d h ∧ dayH u d h ≤ day) ↔ h ≤ reach u d day := by
  unfold dayH reach
  by_cases h1 : h ≤ u
  · rw [if_pos h1]
    split
    · omega
    · have := Int.mul_nonneg (show 0 ≤ day - 1 by omega) (show 0 ≤ u - d by omega)
      omega
  · rw [if_neg h1]
    by_cases h2 : u ≤ d
    · rw [if_pos h2, if_pos h2]; omega
    · rw [if_neg h2, if_neg h2]
      have a := Int.ediv_nonneg (show 0 ≤ h - u + (u - d) - 1 by omega) (show 0 ≤ u - d by omega)
      have c := ceil_le (h - u) (u - d) (day - 1) (by omega)
      constructor
      · rintro ⟨_, k⟩; have := c.mp (by omega); omega
      · intro k; have := c.mpr (by omega); omega
def daysV (u d w : Int) : Int × Bool := if gd u d ∧ gw w then (dayH u d w, decide (0 < dayH u d w)) else (0, false)
def greatV (u d w : Int) : Int × Bool := if gd u d ∧ gw w then (reach u d w, true) else (0, false)
def evenV (u d w day : Int) : Int × Bool := if (gd u d ∧ gw w) ∧ gw day then (min w (reach u d day), true) else (0, false)
def mornV (u d w day : Int) : Int × Bool := if (gd u d ∧ gw w) ∧ gw day then (if day = 1 then 0 else if min w (reach u d (day - 1)) = w then w else max 0 (min w (reach u d (day - 1)) - d), true) else (0, false)
def mornI (u d w day : Int) : Int := if day = 1 then 0 else if min w (reach u d (day - 1)) = w then w else max 0 (min w (reach u d (day - 1)) - d)
def dayV (u d w h : Int) : Int × Bool := if (gd u d ∧ gw w) ∧ 0 ≤ h ∧ h ≤ w then (dayH u d h, decide (0 < dayH u d h)) else (0, false)
def leadV (u d u' d' w day : Int) : Int × Bool := if ((gd u d ∧ gw w) ∧ gd u' d') ∧ gw day then (min w (reach u d day) - min w (reach u' d' day), true) else (0, false)
def upL (P : Int → Bool) : Nat → Int → Int × Bool
  | 0, _ => (0, false)
  | n + 1, up => if P up = true then (up, true) else upL P n (up + 1)
def slowP (w days d up : Int) : Bool := decide (w ≤ reach up d days)
def slowV (w days d : Int) : Int × Bool := if (gw w ∧ gw days) ∧ 0 ≤ d ∧ d ≤ 1000 then upL (slowP w days d) 1000 1 else (0, false)
def downL (P : Int → Bool) : Nat → Int → Int × Bool
  | 0, _ => (0, false)
  | n + 1, x => if P x = true then (x, true) else downL P n (x - 1)
def mostP (w days u x : Int) : Bool := decide (w ≤ reach u x days)
def mostV (w days u : Int) : Int × Bool := if (gw w ∧ gw days) ∧ 1 ≤ u ∧ u ≤ 1000 then downL (mostP w days u) 1001 1000 else (0, false)
theorem e_within (a b c : Int) : impl_within.f a b c = some (decide (b ≤ a ∧ a ≤ c)) := by
  unfold impl_within.f; exact le_cases a b c
theorem e_l1In (a b c : Int) : spec_l1In.f a b c = some (decide (b ≤ a ∧ a ≤ c)) := by
  unfold spec_l1In.f; exact le_cases a b c
theorem e_iIsSnail (u d : Int) : impl_IsSnail.f u d = some (decide (gd u d)) := by
  unfold impl_IsSnail.f; simp only [e_within, Option.bind_some]
  by_cases h : 1 ≤ u ∧ u ≤ 1000 <;> by_cases h' : 0 ≤ d ∧ d ≤ 1000 <;> simp [gd, h, h'] <;> omega
theorem e_snGood (u d : Int) : spec_snGood.f u d = some (decide (gd u d)) := by
  unfold spec_snGood.f; simp only [e_l1In, Option.bind_some]
  by_cases h : 1 ≤ u ∧ u ≤ 1000 <;> by_cases h' : 0 ≤ d ∧ d ≤ 1000 <;> simp [gd, h, h'] <;> omega
theorem e_toSnail (u d : Int) : laws_toSnail.f u d = some (u, d) := rfl
theorem e_isWall (a : Int) : impl_isWall.f a = some (decide (gw a)) := by
  unfold impl_isWall.f; simp only [e_within, Option.bind_some]; rfl
theorem e_snWall (a : Int) : spec_snWall.f a = some (decide (gw a)) := by
  unfold spec_snWall.f; simp only [e_l1In, Option.bind_some]; rfl
theorem e_isWalled (u d a : Int) : impl_isWalled.f u d a = some (decide (gd u d ∧ gw a)) := by
  unfold impl_isWalled.f; simp only [e_iIsSnail, e_isWall, Option.bind_some]
  by_cases h : gd u d <;> by_cases h' : gw a <;> simp [h, h']
theorem e_snAsked (u d a : Int) : spec_snAsked.f u d a = some (decide (gd u d ∧ gw a)) := by
  unfold spec_snAsked.f; simp only [e_snGood, e_snWall, Option.bind_some]
  by_cases h : gd u d <;> by_cases h' : gw a <;> simp [h, h']
theorem e_snEvening (u d day : Int) (g : gd u d) (w : gw day) : spec_snEvening.f u d day = some (reach u d day) := by
  have b := reach_bd u d day g w
  unfold gd at g; unfold gw at w; unfold spec_snEvening.f; unfold reach at b ⊢
  by_cases h : u ≤ d
  · rw [if_pos h, if_pos h]
  · rw [if_neg h] at b
    rw [if_neg h, if_neg h]
    have m := mul_bd (day - 1) (u - d) 999999 1000 (by omega) (by omega) (by omega) (by omega)
    rw [w64 (u - d) (by omega) (by omega), w64 (day - 1) (by omega) (by omega), w64 ((day - 1) * (u - d)) (by omega) (by omega), w64 _ (by omega) (by omega)]
theorem e_dayOfHeight (u d h : Int) (g : gd u d) (h2 : h ≤ 1000000) : impl_dayOfHeight.f u d h = some (dayH u d h) := by
  unfold gd at g; unfold impl_dayOfHeight.f dayH
  by_cases c1 : h ≤ u
  · rw [if_pos c1, if_pos c1]
  · rw [if_neg c1, if_neg c1]
    by_cases c2 : u ≤ d
    · rw [if_pos c2, if_pos c2]
    · rw [if_neg c2, if_neg c2, w64 (u - d) (by omega) (by omega), if_neg (by omega), w64 (h - u) (by omega) (by omega), w64 (h - u + (u - d)) (by omega) (by omega), w64 (h - u + (u - d) - 1) (by omega) (by omega), Int.tdiv_eq_ediv_of_nonneg (by omega)]
      have b := div_bd (h - u + (u - d) - 1) (u - d) (by omega) (by omega)
      rw [w64 ((h - u + (u - d) - 1) / (u - d)) (by omega) (by omega), w64 _ (by omega) (by omega)]
theorem e_snDays (u d h : Int) (g : gd u d) (h2 : h ≤ 1000000) (hc : u ≥ h ∨ u > d) : spec_snDays.f u d h = some (dayH u d h) := by
  unfold gd at g; unfold spec_snDays.f dayH
  by_cases c1 : h ≤ u
  · rw [if_pos c1, if_pos c1]
  · have c2 : ¬ u ≤ d := by omega
    rw [if_neg c1, if_neg c1, if_neg c2, w64 (u - d) (by omega) (by omega), if_neg (by omega), w64 (h - u) (by omega) (by omega), w64 (h - u + (u - d)) (by omega) (by omega), w64 (h - u + (u - d) - 1) (by omega) (by omega), Int.tdiv_eq_ediv_of_nonneg (by omega)]
    have b := div_bd (h - u + (u - d) - 1) (u - d) (by omega) (by omega)
    rw [w64 ((h - u + (u - d) - 1) / (u - d)) (by omega) (by omega), w64 _ (by omega) (by omega)]
theorem dayH_pos (u d h : Int) : 0 < dayH u d h ↔ (u ≥ h ∨ u > d) := by
  unfold dayH
  by_cases c1 : h ≤ u
  · rw [if_pos c1]; omega
  · rw [if_neg c1]
    by_cases c2 : u ≤ d
    · rw [if_pos c2]; omega
    · rw [if_neg c2]; have := Int.ediv_nonneg (show 0 ≤ h - u + (u - d) - 1 by omega) (show 0 ≤ u - d by omega); omega
theorem e_snCan (u d h : Int) : spec_snCan.f u d h = some (decide (0 < dayH u d h)) := by
  unfold spec_snCan.f; simp only [dayH_pos]
  by_cases c1 : u ≥ h <;> by_cases c2 : u > d <;> simp [c1, c2]
theorem e_l1Least (a b : Int) : spec_l1Least.f a b = some (min a b) := by
  unfold spec_l1Least.f; split <;> (congr 1; omega)
theorem e_l1Most (a b : Int) : spec_l1Most.f a b = some (max a b) := by
  unfold spec_l1Most.f; split <;> (congr 1; omega)
theorem e_snMorning (u d w day : Int) (h : gd u d) (h2 : gw w) (h' : gw day) : spec_snMorning.f u d w day = some (mornI u d w day) := by
  unfold spec_snMorning.f mornI
  by_cases c : day = 1
  · simp [c]
  · have g' := h'
    unfold gw at g'
    have g1 : gw (day - 1) := by unfold gw; omega
    have b := reach_bd u d (day - 1) h g1
    have g2 := h; have g3 := h2; unfold gd at g2; unfold gw at g3
    rw [if_neg c, if_neg c, w64 (day - 1) (by omega) (by omega), e_snEvening u d (day - 1) h g1]
    simp only [Option.bind_some, e_l1Least]
    by_cases c2 : min w (reach u d (day - 1)) = w
    · rw [if_pos c2, if_pos c2]
    · rw [if_neg c2, if_neg c2, w64 _ (by omega) (by omega), e_l1Most]; rfl
theorem uniq (a b q r : Int) (hb : 0 < b) (e : b * q + r = a) (h0 : 0 ≤ r) (h1 : r < b) : a / b = q ∧ a % b = r :=
  (Int.ediv_emod_unique hb).mpr ⟨by rw [← e]; exact Int.add_comm _ _, h0, h1⟩
theorem tm_bd (a b : Int) (hb : 0 < b) : b * a.tdiv b + a.tmod b = a ∧ -b < a.tmod b ∧ a.tmod b < b :=
  ⟨Int.mul_tdiv_add_tmod a b, Int.lt_tmod_of_pos a hb, Int.tmod_lt_of_pos a hb⟩
theorem floor_is (a b : Int) (hb : 0 < b) : (if a.tmod b < 0 then a.tdiv b - 1 else a.tdiv b) = a / b := by
  obtain ⟨e, h0, h1⟩ := tm_bd a b hb
  split
  · have := uniq a b (a.tdiv b - 1) (a.tmod b + b) hb (by rw [Int.mul_sub]; omega) (by omega) (by omega)
    exact this.1.symm
  · have := uniq a b (a.tdiv b) (a.tmod b) hb e (by omega) h1
    exact this.1.symm
theorem mod_is (a b : Int) (hb : 0 < b) : (a.tmod b + b).tmod b = a % b := by
  obtain ⟨e, h0, h1⟩ := tm_bd a b hb
  rw [Int.tmod_eq_emod_of_nonneg (by omega), Int.add_emod_right]
  have h := Int.add_mul_emod_self_left (a.tmod b) b (a.tdiv b)
  rw [Int.add_comm, e] at h
  exact h.symm
theorem abs_mx (a : Int) : mx a (-a) = (a.natAbs : Int) := by unfold mx; split <;> omega
theorem gcd_pos (num den : Int) (h : den ≠ 0) : 0 < (Int.gcd num den : Int) := by
  have : 0 < Int.gcd num den := Int.gcd_pos_of_ne_zero_right _ h
  omega
theorem tdiv_ex (a g : Int) (h : g ∣ a) : a.tdiv g = a / g := Int.tdiv_eq_ediv_of_dvd h
def gt (a b : Int) : Prop := 0 ≤ a ∧ a ≤ 1000000 ∧ 1 ≤ b ∧ b ≤ 1000
instance (a b : Int) : Decidable (gt a b) := by unfold gt; infer_instance
def gr (a : Int) : Prop := 1 ≤ a ∧ a ≤ 1000
instance (a : Int) : Decidable (gr a) := by unfold gr; infer_instance
def lowN (num den : Int) : Int := (if den < 0 then -num else num) / (Int.gcd num den : Int)
def lowD (num den : Int) : Int := (if den < 0 then -den else den) / (Int.gcd num den : Int)
def placeV (p s num den : Int) : Int := p * den + s * num
def wpV (p s num den : Int) : Int × Int × Bool := if gk p s ∧ gt num den then (lowN (placeV p s num den) den, lowD (placeV p s num den) den, true) else (0, 0, false)
def gapV (p s p' s' num den : Int) : Int := ((placeV p s num den - placeV p' s' num den).natAbs : Int)
def gaV (p s p' s' num den : Int) : Int × Int × Bool := if (gk p s ∧ gk p' s') ∧ gt num den then (lowN (gapV p s p' s' num den) den, lowD (gapV p s p' s' num den) den, true) else (0, 0, false)
def meetV (p s p' s' : Int) : Int × Int × Bool := if p = p' then (0, 1, true) else if s = s' then (0, 0, false) else if lowN (p' - p) (s - s') < 0 then (0, 0, false) else (lowN (p' - p) (s - s'), lowD (p' - p) (s - s'), true)
def mtV (p s p' s' : Int) : Int × Int × Bool := if gk p s ∧ gk p' s' then meetV p s p' s' else (0, 0, false)
def mpV (p s p' s' : Int) : Int × Int × Bool := if (gk p s ∧ gk p' s') ∧ (meetV p s p' s').2.2 = true then (lowN (placeV p s (meetV p s p' s').1 (meetV p s p' s').2.1) (meetV p s p' s').2.1, lowD (placeV p s (meetV p s p' s').1 (meetV p s p' s').2.1) (meetV p s p' s').2.1, true) else (0, 0, false)
def ringV (a p s p' s' : Int) : Int × Int := if s < s' then ((p - p') % a, s' - s) else ((p' - p) % a, s - s')
def ringV' (a p s p' s' : Int) : Int × Int := if s < s' then ((p - p') % a, s' - s) else ((p' - p) % a, s - s')
def rgV (a p s p' s' : Int) : Int × Int × Bool := if ((gr a ∧ gk p s) ∧ gk p' s') ∧ ¬ s = s' then (lowN a ((s - s').natAbs : Int), lowD a ((s - s').natAbs : Int), true) else (0, 0, false)
def crV (a p s p' s' t : Int) : Int × Bool := if (((gr a ∧ gk p s) ∧ gk p' s') ∧ ¬ s = s') ∧ 0 ≤ t ∧ t ≤ 1000 then (if t * (ringV a p s p' s').2 < (ringV a p s p' s').1 then 0 else (t * (ringV a p s p' s').2 - (ringV a p s p' s').1) / a + 1, true) else (0, false)
theorem div_abs (a g : Int) (hg : 1 ≤ g) (B : Int) (h : -B ≤ a ∧ a ≤ B) : -B ≤ a / g ∧ a / g ≤ B := by
  constructor
  · have : -B ≤ a / g ↔ -B * g ≤ a := Int.le_ediv_iff_mul_le (by omega)
    refine this.mpr ?_
    have hB : 0 ≤ B := by omega
    have := Int.mul_le_mul_of_nonneg_left hg hB
    rw [Int.neg_mul]; omega
  · rcases Int.lt_or_le a 0 with h' | h'
    · have : a / g < 0 ↔ a < 0 * g := Int.ediv_lt_iff_lt_mul (by omega)
      have := this.mpr (by omega)
      omega
    · have := Int.ediv_le_self g h'
      omega
theorem low_bd (num den B : Int) (hd : den ≠ 0) (h1 : -B ≤ num ∧ num ≤ B) (h2 : -B ≤ den ∧ den ≤ B) : (-B ≤ lowN num den ∧ lowN num den ≤ B) ∧ (1 ≤ lowD num den ∧ lowD num den ≤ B) := by
  have hg := gcd_pos num den hd
  refine ⟨?_, ?_⟩
  · unfold lowN; exact div_abs _ _ (by omega) B (by split <;> omega)
  · have h := div_abs (if den < 0 then -den else den) (Int.gcd num den : Int) (by omega) B (by split <;> omega)
    unfold lowD
    refine ⟨?_, h.2⟩
    have hd' : (Int.gcd num den : Int) ∣ (if den < 0 then -den else den) := by
      split
      · exact Int.dvd_neg.mpr (Int.gcd_dvd_right ..)
      · exact Int.gcd_dvd_right ..
    have hp : 0 < (if den < 0 then -den else den) := by split <;> omega
    have := Int.ediv_pos_of_pos_of_dvd hp (by omega) hd'
    omega
theorem lowN_neg (num den : Int) (hd : den ≠ 0) : lowN num den < 0 ↔ (if den < 0 then -num else num) < 0 := by
  have hg := gcd_pos num den hd
  unfold lowN
  have : (if den < 0 then -num else num) / (Int.gcd num den : Int) < 0 ↔ (if den < 0 then -num else num) < 0 * (Int.gcd num den : Int) := Int.ediv_lt_iff_lt_mul (by omega)
  rw [Int.zero_mul] at this
  exact this
theorem ediv_min (a g : Int) (h : g ∣ a) (hg : g ≠ 0) : -a / g = -(a / g) := Int.neg_ediv_of_dvd h
theorem abs_mul (a b A B : Int) (h1 : -A ≤ a ∧ a ≤ A) (h2 : 0 ≤ b ∧ b ≤ B) : -(A * B) ≤ a * b ∧ a * b ≤ A * B := by
  have hA : 0 ≤ A := by omega
  have t : A * b ≤ A * B := Int.mul_le_mul_of_nonneg_left h2.2 hA
  have t1 : a * b ≤ A * b := Int.mul_le_mul_of_nonneg_right h1.2 h2.1
  have t2 : -A * b ≤ a * b := Int.mul_le_mul_of_nonneg_right h1.1 h2.1
  rw [Int.neg_mul] at t2
  omega
theorem e_l1Most' (a b : Int) : spec_l1Most.f a b = some (max a b) := by
  unfold spec_l1Most.f; split <;> (congr 1; omega)
theorem rdn (l : List Int) (i : Nat) : rd l (i : Int) = l.getD i 0 := by simp [rd]
theorem drop_cons (l : List Int) (i : Nat) (h : i < l.length) : l.drop i = l.getD i 0 :: l.drop (i + 1) := by
  rw [List.drop_eq_getElem_cons h]; simp [List.getD_eq_getElem?_getD, h]
theorem getD_mem (l : List Int) (i : Nat) (h : i < l.length) : l.getD i 0 ∈ l := by
  simp [List.getD_eq_getElem?_getD, h]
theorem round1 {k n : Nat} (h : n < k) : ∃ m, k = m + 1 ∧ n ≤ m := ⟨k - 1, by omega, by omega⟩
def gs (up : Int) (s : List Int) : Prop := (1 ≤ up ∧ up ≤ 1000) ∧ (1 ≤ (s.length : Int) ∧ (s.length : Int) ≤ 12) ∧ ∀ x ∈ s, 0 ≤ x ∧ x ≤ 1000
instance (up : Int) (s : List Int) : Decidable (gs up s) := by unfold gs; infer_instance
/-- The slip of the night behind day j + 1. -/
def sl (s : List Int) (j : Nat) : Int := s.getD (j % s.length) 0
theorem sl_bd (up : Int) (s : List Int) (g : gs up s) (j : Nat) : 0 ≤ sl s j ∧ sl s j ≤ 1000 := by
  obtain ⟨_, h, ha⟩ := g
  exact ha _ (getD_mem s _ (Nat.mod_lt _ (by omega)))
theorem tmod_nat (j n : Nat) : Int.tmod (j : Int) (n : Int) = ((j % n : Nat) : Int) := by
  rw [Int.tmod_eq_emod_of_nonneg (by omega), Int.natCast_emod]
/-- How far it comes at most: rounds left, day, height in the morning, most so far. -/
def gsL (up : Int) (s : List Int) : Nat → Nat → Int → Int → Int
  | 0, _, _, most => most
  | n + 1, j, m, most => gsL up s n (j + 1) (max 0 (m + up - sl s j)) (max most (m + up))
def gwsV (up : Int) (s : List Int) (days : Int) : Int × Bool := if gs up s ∧ gw days then (gsL up s days.toNat 0 0 0, true) else (0, false)
/-- How high it is in the morning before day j + 1, if there is no top. -/
def mor (up : Int) (s : List Int) : Nat → Int
  | 0 => 0
  | j + 1 => max 0 (mor up s j + up - sl s j)
theorem mor_bd (up : Int) (s : List Int) (g : gs up s) : ∀ j : Nat, 0 ≤ mor up s j ∧ mor up s j ≤ j * 1000 := by
  intro j
  induction j with
  | zero => simp [mor]
  | succ j ih =>
    have hs := sl_bd up s g j
    have g1 := g.1
    simp only [mor]
    omega
theorem sl_per (s : List Int) (j : Nat) : sl s (j + s.length) = sl s j := by unfold sl; rw [Nat.add_mod_right]
theorem mor_step (up : Int) (s : List Int) (a : Nat) (h : mor up s (a + s.length) ≤ mor up s a) : ∀ t, mor up s (a + t + s.length) ≤ mor up s (a + t) := by
  intro t
  induction t with
  | zero => exact h
  | succ t ih =>
    have e : a + (t + 1) + s.length = (a + t + s.length) + 1 := by omega
    rw [e, show a + (t + 1) = (a + t) + 1 by omega]
    simp only [mor]
    rw [sl_per s (a + t)]
    omega
theorem mor_never (up w : Int) (s : List Int) (hs : 1 ≤ s.length) (a : Nat) (h : mor up s (a + s.length) ≤ mor up s a) (hb : ∀ i, i < a + s.length → mor up s i + up < w) : ∀ j, mor up s j + up < w := by
  intro j
  induction j using Nat.strongRecOn with
  | ind j ih =>
    rcases Nat.lt_or_ge j (a + s.length) with h1 | h1
    · exact hb j h1
    · have := mor_step up s a h (j - s.length - a)
      rw [show a + (j - s.length - a) + s.length = j by omega, show a + (j - s.length - a) = j - s.length by omega] at this
      have := ih (j - s.length) (by omega)
      omega
/-- What the day of the top is: the first one, or that there is none. -/
def DS (up : Int) (s : List Int) (w : Int) (r : Int × Bool) : Prop :=
  (∃ j : Nat, r = ((j : Int) + 1, true) ∧ mor up s j + up ≥ w ∧ ∀ i, i < j → mor up s i + up < w) ∨ (r = (0, false) ∧ ∀ j, mor up s j + up < w)
theorem DS_one (up : Int) (s : List Int) (w : Int) (r r' : Int × Bool) (h : DS up s w r) (h' : DS up s w r') : r = r' := by
  rcases h with ⟨j, e, a, b⟩ | ⟨e, a⟩ <;> rcases h' with ⟨j', e', a', b'⟩ | ⟨e', a'⟩
  · rcases Nat.lt_trichotomy j j' with h | h | h
    · have := b' j h; omega
    · rw [e, e', h]
    · have := b j' h; omega
  · have := a' j; omega
  · have := a j'; omega
  · rw [e, e']
/-- The last day before the height is behind it for good, for a snail that comes higher. -/
def lastD (u d w h : Int) : Int := min (dayH u d w) (1 + (h - 1) / (u - d))
theorem morn_lt (u d w h day : Int) (g : gd u d) (hw : gw w) (hh : 1 ≤ h ∧ h ≤ w) (hg : u > d) (hd : 1 ≤ day) : mornI u d w day < h ↔ day ≤ lastD u d w h := by
  unfold gd at g; unfold gw at hw; unfold mornI lastD
  have hdiv : (h - 1) / (u - d) < day - 1 ↔ h - 1 < (day - 1) * (u - d) := Int.ediv_lt_iff_lt_mul (by omega)
  have hdiv0 : 0 ≤ (h - 1) / (u - d) := Int.ediv_nonneg (by omega) (by omega)
  have htop := dayH_le u d w (day - 1)
  have hp := (dayH_pos u d w).mpr (Or.inr hg)
  by_cases c : day = 1
  · subst c; rw [if_pos rfl]; omega
  · have htop := htop (by omega)
    rw [if_neg c]
    by_cases c2 : w ≤ reach u d (day - 1)
    · have := htop.mpr c2
      rw [if_pos (show min w (reach u d (day - 1)) = w by omega)]; omega
    · have t : ¬ dayH u d w ≤ day - 1 := fun z => c2 (htop.mp ⟨hp, z⟩)
      rw [if_neg (show ¬ min w (reach u d (day - 1)) = w by omega)]
      have e : reach u d (day - 1) = d + (day - 1) * (u - d) := by
        unfold reach; rw [if_neg (by omega)]
        have : (day - 1 - 1) * (u - d) = (day - 1) * (u - d) - (u - d) := by rw [Int.sub_mul, Int.one_mul]
        omega
      have hn := Int.mul_nonneg (show 0 ≤ day - 1 by omega) (show 0 ≤ u - d by omega)
      omega
theorem first_le (u d w h : Int) (g : gd u d) (hw : gw w) (hh : 1 ≤ h ∧ h ≤ w) (hg : u > d) : dayH u d h ≤ lastD u d w h := by
  unfold gd at g; unfold gw at hw; unfold lastD
  have hdiv0 : 0 ≤ (h - 1) / (u - d) := Int.ediv_nonneg (by omega) (by omega)
  have hp := (dayH_pos u d h).mpr (Or.inr hg)
  have hpw := (dayH_pos u d w).mpr (Or.inr hg)
  have h1 : dayH u d h ≤ dayH u d w := by
    have a := (dayH_le u d w (dayH u d w) (by omega)).mp ⟨hpw, Int.le_refl _⟩
    exact ((dayH_le u d h (dayH u d w) (by omega)).mpr (by omega)).2
  by_cases c : dayH u d h = 1
  · omega
  · have a : ¬ h ≤ reach u d (dayH u d h - 1) := fun z => by
      have := (dayH_le u d h (dayH u d h - 1) (by omega)).mpr z; omega
    have hdiv : dayH u d h - 1 ≤ (h - 1) / (u - d) ↔ (dayH u d h - 1) * (u - d) ≤ h - 1 := Int.le_ediv_iff_mul_le (by omega)
    have e : reach u d (dayH u d h - 1) = d + (dayH u d h - 1) * (u - d) := by
      unfold reach; rw [if_neg (by omega)]
      have : (dayH u d h - 1 - 1) * (u - d) = (dayH u d h - 1) * (u - d) - (u - d) := by rw [Int.sub_mul, Int.one_mul]
      omega
    have := hdiv.mpr (by omega)
    omega
def tpV (u d w h : Int) : Int × Bool := if (gd u d ∧ gw w) ∧ 1 ≤ h ∧ h ≤ w then (if dayH u d h = 0 then (0, true) else if dayH u d w = 0 then (0, false) else if u ≤ d then (1, true) else (lastD u d w h - dayH u d h + 1, true)) else (0, false)
theorem e_iTimesPassed (k : Nat) (u d w h : Int) (hk : 3 ≤ k) : impl_TimesPassed.f k u d w h = some (tpV u d w h) := by
  obtain ⟨k, rfl⟩ : ∃ m, k = m + 3 := ⟨k - 3, by omega⟩
  unfold impl_TimesPassed.f tpV; rw [e_isWalled, e_within]; simp only [Option.bind_some, decide_eq_true_eq, impl_TimesPassed.j0]
  by_cases c : gd u d ∧ gw w <;> by_cases c1 : 1 ≤ h ∧ h ≤ w <;> simp [c, c1]
  have hw' := c.2; unfold gw at hw'
  have g' := c.1; unfold gd at g'
  rw [e_dayOfHeight u d h c.1 (by omega), e_dayOfHeight u d w c.1 (by omega)]; simp only [Option.bind_some]
  have b1 := dayH_bd u d w c.1 (by omega)
  have b2 := dayH_bd u d h c.1 (by omega)
  by_cases d1 : dayH u d h = 0
  · rw [if_pos d1, if_pos d1]
  · rw [if_neg d1, if_neg d1]
    by_cases d2 : dayH u d w = 0
    · rw [if_pos d2, if_pos d2]
    · rw [if_neg d2, if_neg d2]
      by_cases d3 : u ≤ d
      · rw [if_pos d3, if_pos d3]
      · have q := div_bd (h - 1) (u - d) (by omega) (by omega)
        rw [if_neg d3, if_neg d3, w64 (u - d) (by omega) (by omega), if_neg (by omega), w64 (h - 1) (by omega) (by omega), Int.tdiv_eq_ediv_of_nonneg (by omega), w64 ((h - 1) / (u - d)) (by omega) (by omega), w64 (1 + _) (by omega) (by omega)]
        have e : mn (dayH u d w) (1 + (h - 1) / (u - d)) = lastD u d w h := by unfold mn lastD; omega
        have lb : lastD u d w h ≤ 1001000 ∧ 0 ≤ lastD u d w h := by unfold lastD; omega
        rw [e, w64 (lastD u d w h - dayH u d h) (by omega) (by omega), w64 _ (by omega) (by omega)]
theorem reach_bd2 (u d day : Int) (g : gd u d) (h1 : 1 ≤ day) (h2 : day ≤ 2000000) : u ≤ reach u d day ∧ reach u d day ≤ 2000001000 := by
  unfold gd at g; unfold reach
  split
  · omega
  · have := mul_bd (day - 1) (u - d) 1999999 1000 (by omega) (by omega) (by omega) (by omega)
    omega
theorem e_snEvening2 (u d day : Int) (g : gd u d) (h1 : 1 ≤ day) (h2 : day ≤ 2000000) : spec_snEvening.f u d day = some (reach u d day) := by
  have b := reach_bd2 u d day g h1 h2
  unfold gd at g; unfold spec_snEvening.f; unfold reach at b ⊢
  by_cases h : u ≤ d
  · rw [if_pos h, if_pos h]
  · rw [if_neg h] at b
    rw [if_neg h, if_neg h]
    have m := mul_bd (day - 1) (u - d) 1999999 1000 (by omega) (by omega) (by omega) (by omega)
    rw [w64 (u - d) (by omega) (by omega), w64 (day - 1) (by omega) (by omega), w64 ((day - 1) * (u - d)) (by omega) (by omega), w64 _ (by omega) (by omega)]
theorem e_snMorning2 (u d w day : Int) (h : gd u d) (h2 : gw w) (d1 : 1 ≤ day) (d2 : day ≤ 2000000) : spec_snMorning.f u d w day = some (mornI u d w day) := by
  unfold spec_snMorning.f mornI
  by_cases c : day = 1
  · simp [c]
  · have b := reach_bd2 u d (day - 1) h (by omega) (by omega)
    have g2 := h; have g3 := h2; unfold gd at g2; unfold gw at g3
    rw [if_neg c, if_neg c, w64 (day - 1) (by omega) (by omega), e_snEvening2 u d (day - 1) h (by omega) (by omega)]
    simp only [Option.bind_some, e_l1Least]
    by_cases c2 : min w (reach u d (day - 1)) = w
    · rw [if_pos c2, if_pos c2]
    · rw [if_neg c2, if_neg c2, w64 _ (by omega) (by omega), e_l1Most]; rfl
theorem e_sTp_l0 (u d w h : Int) (g : gd u d) (hw : gw w) (L : Int) (hL : L ≤ 1500000) (hm : ∀ day, 1 ≤ day → (mornI u d w day < h ↔ day ≤ L)) : ∀ (n : Nat) (day c : Int) (k : Nat), day + n = L + 1 → 1 ≤ day → 0 ≤ c → c ≤ day → n < k → spec_TimesPassed.l0 k w h c day u d = some (c + n, true) := by
  intro n
  induction n with
  | zero =>
    intro day c k h1 h2 h3 h4 hk
    obtain ⟨k, rfl, hk⟩ := round1 hk
    simp only [spec_TimesPassed.l0]
    have := hm day h2
    rw [e_snMorning2 u d w day g hw h2 (by omega)]; simp only [Option.bind_some]
    rw [if_neg (fun z => by have := this.mp z; omega)]; simp
  | succ n ih =>
    intro day c k h1 h2 h3 h4 hk
    obtain ⟨k, rfl, hk⟩ := round1 hk
    simp only [spec_TimesPassed.l0]
    have := hm day h2
    rw [e_snMorning2 u d w day g hw h2 (by omega)]; simp only [Option.bind_some]
    rw [if_pos (this.mpr (by omega)), w64 (c + 1) (by omega) (by omega), w64 (day + 1) (by omega) (by omega), ih (day + 1) (c + 1) k (by omega) (by omega) (by omega) (by omega) (by omega)]
    congr 2; omega
theorem e_sTimesPassed (k : Nat) (u d w h : Int) (hk : 3000000 ≤ k) : spec_TimesPassed.f k u d w h = some (tpV u d w h) := by
  obtain ⟨k, rfl⟩ : ∃ m, k = m + 3 := ⟨k - 3, by omega⟩
  unfold spec_TimesPassed.f tpV; rw [e_snAsked, e_l1In]; simp only [Option.bind_some, decide_eq_true_eq, spec_TimesPassed.j0, e_snCan]
  by_cases c : gd u d ∧ gw w
  · by_cases c1 : 1 ≤ h ∧ h ≤ w
    · have hw' := c.2; unfold gw at hw'
      have g' := c.1; unfold gd at g'
      have b1 := dayH_bd u d w c.1 (by omega)
      have b2 := dayH_bd u d h c.1 (by omega)
      have p1 := dayH_pos u d h
      have p2 := dayH_pos u d w
      rw [if_pos c, if_pos (show (gd u d ∧ gw w) ∧ 1 ≤ h ∧ h ≤ w from ⟨c, c1⟩)]
      simp only [c1, and_self, decide_true, Bool.not_true, Bool.false_eq_true, if_false]
      by_cases d1 : 0 < dayH u d h
      · rw [if_pos d1, if_neg (show ¬ dayH u d h = 0 by omega)]
        by_cases d2 : u ≤ d
        · rw [if_pos (show d ≥ u from d2)]
          by_cases d3 : u < w
          · have e : dayH u d w = 0 := by
              have : ¬ 0 < dayH u d w := fun z => by have := p2.mp z; omega
              omega
            simp only [spec_TimesPassed.j1, d3, decide_true, if_true]
            rw [if_pos e]
          · have e : dayH u d w = 1 := by unfold dayH; rw [if_pos (by omega)]
            have e2 : dayH u d h = 1 := by unfold dayH; rw [if_pos (by omega)]
            simp only [spec_TimesPassed.j1, d3, decide_false, Bool.false_eq_true, if_false]
            rw [if_neg (show ¬ dayH u d w = 0 by omega), if_pos d2, e_snDays u d h c.1 (by omega) (Or.inl (by omega))]
            simp only [Option.bind_some]
            rw [e2, e_sTp_l0 u d w h c.1 c.2 1 (by omega) ?_ 1 1 0 (k + 1) (by omega) (by omega) (by omega) (by omega) (by omega)]
            · rfl
            · intro day hd
              unfold mornI
              by_cases c5 : day = 1
              · rw [if_pos c5]; omega
              · have : reach u d (day - 1) = u := by unfold reach; rw [if_pos d2]
                rw [if_neg c5, this, if_pos (by omega)]; omega
        · have hg : u > d := by omega
          have hp := p2.mpr (Or.inr hg)
          have f := first_le u d w h c.1 c.2 c1 hg
          have lb : lastD u d w h ≤ 1001000 := by unfold lastD; omega
          rw [if_neg (show ¬ d ≥ u from d2), if_neg (show ¬ dayH u d w = 0 by omega), if_neg d2]
          simp only [spec_TimesPassed.j1, Bool.false_eq_true, if_false]
          rw [e_snDays u d h c.1 (by omega) (Or.inr hg)]
          simp only [Option.bind_some]
          rw [e_sTp_l0 u d w h c.1 c.2 (lastD u d w h) (by omega) (fun day hd => morn_lt u d w h day c.1 c.2 c1 hg hd) (lastD u d w h + 1 - dayH u d h).toNat (dayH u d h) 0 (k + 1) (by omega) (by omega) (by omega) (by omega) (by omega)]
          congr 2; omega
      · rw [if_neg d1, if_pos (show dayH u d h = 0 by omega)]
    · simp [c, c1]
  · simp [c]
theorem FnExactTimesPassed : ∀ (a0_0 : Int) (a0_1 : Int) (a1 : Int) (a2 : Int), (Lit.int .i64 a0_0).wf = true → (Lit.int .i64 a0_1).wf = true → (Lit.int .i64 a1).wf = true → (Lit.int .i64 a2).wf = true → ∃ k, laws_FnExactTimesPassed.f k a0_0 a0_1 a1 a2 = some true := by
  intros
  refine ⟨10000000, ?_⟩
  unfold laws_FnExactTimesPassed.f
  simp [e_toSnail, e_sTimesPassed, e_iTimesPassed]

end Go.Proofs.Ytbbglmoenjdloaa.Pure
