/- The pure statement of the law FnExactLeadChanges: what the program's function computes is what the reference's computes. -/
import Derived.Test.YtbbglmoenjdloaaPFnExactLeadChangesx5
namespace Go.Proofs.Ytbbglmoenjdloaa.Pure
open Go.RowKit Go.Proofs.Ytbbglmoenjdloaa.PFnExactLeadChanges Go.Proofs.YtbbglmoenjdloaaW.PrintWords Go.Proofs.YtbbglmoenjdloaaW.PrintLast Go.Proofs.YtbbglmoenjdloaaW.PrintMore
set_option linter.unusedVariables false
set_option linter.unusedSimpArgs false
theorem w64 (n : Int) (h1 : -9223372036854775808 ≤ n) (h2 : n ≤ 9223372036854775807) : wrap64 n = n := by unfold wrap64; omega
theorem dec_and (p q : Prop) [Decidable p] [Decidable q] [Decidable (p ∧ q)] : (if p then some (decide q) else some false) = some (decide (p ∧ q)) := by
  by_cases h : p <;> by_cases h' : q <;> simp [h, h']
theorem le_cases (a b c : Int) : (if a ≥ b then some (decide (a ≤ c)) else some false) = some (decide (b ≤ a ∧ a ≤ c)) := by
  by_cases h : b ≤ a <;> by_cases h' : a ≤ c <;> simp [h, h']
def gd (u d : Int) : Prop := 1 ≤ u ∧ u ≤ 1000 ∧ 0 ≤ d ∧ d ≤ 1000
instance (u d : Int) : Decidable (gd u d) := by unfold gd; infer_instance
def gk (p s : Int) : Prop := -1000 ≤ p ∧ p ≤ 1000 ∧ -100 ≤ s ∧ s ≤ 100
instance (p s : Int) : Decidable (gk p s) := by unfold gk; infer_instance
def gw (w : Int) : Prop := 1 ≤ w ∧ w ≤ 1000000
instance (w : Int) : Decidable (gw w) := by unfold gw; infer_instance
def reach (u d day : Int) : Int := if u ≤ d then u else u + (day - 1) * (u - d)
def dayH (u d h : Int) : Int := if h ≤ u then 1 else if u ≤ d then 0 else 1 + (h - u + (u - d) - 1) / (u - d)
theorem mul_bd (a b A B : Int) (h1 : 0 ≤ a) (h2 : a ≤ A) (h3 : 0 ≤ b) (h4 : b ≤ B) : 0 ≤ a * b ∧ a * b ≤ A * B :=
  ⟨Int.mul_nonneg h1 h3, Int.mul_le_mul h2 h4 h3 (by omega)⟩
theorem reach_bd (u d day : Int) (g : gd u d) (w : gw day) : u ≤ reach u d day ∧ reach u d day ≤ 1000000000 := by
  unfold gd at g; unfold gw at w; unfold reach
  split
  · omega
  · have := mul_bd (day - 1) (u - d) 999999 1000 (by omega) (by omega) (by omega) (by omega)
    omega
theorem div_bd (x g : Int) (hg : 1 ≤ g) (hx : 0 ≤ x) : 0 ≤ x / g ∧ x / g ≤ x :=
  ⟨Int.ediv_nonneg hx (by omega), Int.ediv_le_self _ hx⟩
theorem dayH_bd (u d h : Int) (g : gd u d) (hh : h ≤ 1000000) : 0 ≤ dayH u d h ∧ dayH u d h ≤ 1001000 := by
  unfold gd at g; unfold dayH
  split
  · omega
  · split
    · omega
    · have := div_bd (h - u + (u - d) - 1) (u - d) (by omega) (by omega)
      omega
theorem ceil_le (x g n : Int) (hg : 1 ≤ g) : (x + g - 1) / g ≤ n ↔ x ≤ n * g := by
  have h : (x + g - 1) / g < n + 1 ↔ x + g - 1 < (n + 1) * g := Int.ediv_lt_iff_lt_mul (by omega)
  have e : (n + 1) * g = n * g + g := by rw [Int.add_mul, Int.one_mul]
  rw [e] at h
  constructor
  · intro k; have := h.mp (by omega); omega
  · intro k; have := h.mpr (by omega); omega
/-- The day is reached at the end of a day just if that day is not before it. -/
theorem dayH_le (u d h day : Int) (hd : 1 ≤ day) : (0 < dayH u d h ∧ dayH u d h ≤ day) ↔ h ≤ reach u d day := by
  unfold dayH reach
  by_cases h1 : h ≤ u
  · rw [if_pos h1]
    split
    · omega
    · have := Int.mul_nonneg (show 0 ≤ day - 1 by omega) (show 0 ≤ u - d by omega)
      omega
  · rw [if_neg h1]
    by_cases h2 : u ≤ d
    · rw [if_pos h2, if_pos h2]; omega
    · rw [if_neg h2, if_neg h2]
      have a := Int.ediv_nonneg (show 0 ≤ h - u + (u - d) - 1 by omega) (show 0 ≤ u - d by omega)
      have c := ceil_le (h - u) (u - d) (day - 1) (by omega)
      constructor
      · rintro ⟨_, k⟩; have := c.mp (by omega); omega
      · intro k; have := c.mpr (by omega); omega
def daysV (u d w : Int) : Int × Bool := if gd u d ∧ gw w then (dayH u d w, decide (0 < dayH u d w)) else (0, false)
def greatV (u d w : Int) : Int × Bool := if gd u d ∧ gw w then (reach u d w, true) else (0, false)
def evenV (u d w day : Int) : Int × Bool := if (gd u d ∧ gw w) ∧ gw day then (min w (reach u d day), true) else (0, false)
def mornV (u d w day : Int) : Int × Bool := if (gd u d ∧ gw w) ∧ gw day then (if day = 1 then 0 else if min w (reach u d (day - 1)) = w then w else max 0 (min w (reach u d (day - 1)) - d), true) else (0, false)
def mornI (u d w day : Int) : Int := if day = 1 then 0 else if min w (reach u d (day - 1)) = w then w else max 0 (min w (reach u d (day - 1)) - d)
def dayV (u d w h : Int) : Int × Bool := if (gd u d ∧ gw w) ∧ 0 ≤ h ∧ h ≤ w then (dayH u d h, decide (0 < dayH u d h)) else (0, false)
def leadV (u d u' d' w day : Int) : Int × Bool := if ((gd u d ∧ gw w) ∧ gd u' d') ∧ gw day then (min w (reach u d day) - min w (reach u' d' day), true) else (0, false)
def upL (P : Int → Bool) : Nat → Int → Int × Bool
  | 0, _ => (0, false)
  | n + 1, up => if P up = true then (up, true) else upL P n (up + 1)
def slowP (w days d up : Int) : Bool := decide (w ≤ reach up d days)
def slowV (w days d : Int) : Int × Bool := if (gw w ∧ gw days) ∧ 0 ≤ d ∧ d ≤ 1000 then upL (slowP w days d) 1000 1 else (0, false)
def downL (P : Int → Bool) : Nat → Int → Int × Bool
  | 0, _ => (0, false)
  | n + 1, x => if P x = true then (x, true) else downL P n (x - 1)
def mostP (w days u x : Int) : Bool := decide (w ≤ reach u x days)
def mostV (w days u : Int) : Int × Bool := if (gw w ∧ gw days) ∧ 1 ≤ u ∧ u ≤ 1000 then downL (mostP w days u) 1001 1000 else (0, false)
theorem e_within (a b c : Int) : impl_within.f a b c = some (decide (b ≤ a ∧ a ≤ c)) := by
  unfold impl_within.f; exact le_cases a b c
theorem e_l1In (a b c : Int) : spec_l1In.f a b c = some (decide (b ≤ a ∧ a ≤ c)) := by
  unfold spec_l1In.f; exact le_cases a b c
theorem e_iIsSnail (u d : Int) : impl_IsSnail.f u d = some (decide (gd u d)) := by
  unfold impl_IsSnail.f; simp only [e_within, Option.bind_some]
  by_cases h : 1 ≤ u ∧ u ≤ 1000 <;> by_cases h' : 0 ≤ d ∧ d ≤ 1000 <;> simp [gd, h, h'] <;> omega
theorem e_snGood (u d : Int) : spec_snGood.f u d = some (decide (gd u d)) := by
  unfold spec_snGood.f; simp only [e_l1In, Option.bind_some]
  by_cases h : 1 ≤ u ∧ u ≤ 1000 <;> by_cases h' : 0 ≤ d ∧ d ≤ 1000 <;> simp [gd, h, h'] <;> omega
theorem e_toSnail (u d : Int) : laws_toSnail.f u d = some (u, d) := rfl
theorem e_isWall (a : Int) : impl_isWall.f a = some (decide (gw a)) := by
  unfold impl_isWall.f; simp only [e_within, Option.bind_some]; rfl
theorem e_snWall (a : Int) : spec_snWall.f a = some (decide (gw a)) := by
  unfold spec_snWall.f; simp only [e_l1In, Option.bind_some]; rfl
theorem e_isWalled (u d a : Int) : impl_isWalled.f u d a = some (decide (gd u d ∧ gw a)) := by
  unfold impl_isWalled.f; simp only [e_iIsSnail, e_isWall, Option.bind_some]
  by_cases h : gd u d <;> by_cases h' : gw a <;> simp [h, h']
theorem e_snAsked (u d a : Int) : spec_snAsked.f u d a = some (decide (gd u d ∧ gw a)) := by
  unfold spec_snAsked.f; simp only [e_snGood, e_snWall, Option.bind_some]
  by_cases h : gd u d <;> by_cases h' : gw a <;> simp [h, h']
theorem e_snTwo (u d u' d' a : Int) : spec_snTwo.f u d u' d' a = some (decide ((gd u d ∧ gw a) ∧ gd u' d')) := by
  unfold spec_snTwo.f; simp only [e_snAsked, e_snGood, Option.bind_some]
  by_cases h : gd u d ∧ gw a <;> by_cases h' : gd u' d' <;> simp [h, h']
theorem e_reachOf (u d day : Int) (g : gd u d) (w : gw day) : impl_reachOf.f u d day = some (reach u d day) := by
  have b := reach_bd u d day g w
  unfold gd at g; unfold gw at w; unfold impl_reachOf.f; unfold reach at b ⊢
  have m := mul_bd (day - 1) (u - d)
  rw [w64 (u - d) (by omega) (by omega), w64 (day - 1) (by omega) (by omega)]
  by_cases h : u ≤ d
  · rw [if_pos h]; unfold mx
    have e : (if 0 < u - d then u - d else 0) = 0 := if_neg (by omega)
    rw [e, Int.zero_mul, w64 0 (by omega) (by omega), w64 _ (by omega) (by omega)]; simp
  · rw [if_neg h] at b ⊢; unfold mx
    have e : (if 0 < u - d then u - d else 0) = u - d := if_pos (by omega)
    have m := mul_bd (day - 1) (u - d) 999999 1000 (by omega) (by omega) (by omega) (by omega)
    rw [e, Int.mul_comm (u - d), w64 ((day - 1) * (u - d)) (by omega) (by omega), w64 _ (by omega) (by omega)]
theorem e_snEvening (u d day : Int) (g : gd u d) (w : gw day) : spec_snEvening.f u d day = some (reach u d day) := by
  have b := reach_bd u d day g w
  unfold gd at g; unfold gw at w; unfold spec_snEvening.f; unfold reach at b ⊢
  by_cases h : u ≤ d
  · rw [if_pos h, if_pos h]
  · rw [if_neg h] at b
    rw [if_neg h, if_neg h]
    have m := mul_bd (day - 1) (u - d) 999999 1000 (by omega) (by omega) (by omega) (by omega)
    rw [w64 (u - d) (by omega) (by omega), w64 (day - 1) (by omega) (by omega), w64 ((day - 1) * (u - d)) (by omega) (by omega), w64 _ (by omega) (by omega)]
theorem e_dayOfHeight (u d h : Int) (g : gd u d) (h2 : h ≤ 1000000) : impl_dayOfHeight.f u d h = some (dayH u d h) := by
  unfold gd at g; unfold impl_dayOfHeight.f dayH
  by_cases c1 : h ≤ u
  · rw [if_pos c1, if_pos c1]
  · rw [if_neg c1, if_neg c1]
    by_cases c2 : u ≤ d
    · rw [if_pos c2, if_pos c2]
    · rw [if_neg c2, if_neg c2, w64 (u - d) (by omega) (by omega), if_neg (by omega), w64 (h - u) (by omega) (by omega), w64 (h - u + (u - d)) (by omega) (by omega), w64 (h - u + (u - d) - 1) (by omega) (by omega), Int.tdiv_eq_ediv_of_nonneg (by omega)]
      have b := div_bd (h - u + (u - d) - 1) (u - d) (by omega) (by omega)
      rw [w64 ((h - u + (u - d) - 1) / (u - d)) (by omega) (by omega), w64 _ (by omega) (by omega)]
theorem e_snDays (u d h : Int) (g : gd u d) (h2 : h ≤ 1000000) (hc : u ≥ h ∨ u > d) : spec_snDays.f u d h = some (dayH u d h) := by
  unfold gd at g; unfold spec_snDays.f dayH
  by_cases c1 : h ≤ u
  · rw [if_pos c1, if_pos c1]
  · have c2 : ¬ u ≤ d := by omega
    rw [if_neg c1, if_neg c1, if_neg c2, w64 (u - d) (by omega) (by omega), if_neg (by omega), w64 (h - u) (by omega) (by omega), w64 (h - u + (u - d)) (by omega) (by omega), w64 (h - u + (u - d) - 1) (by omega) (by omega), Int.tdiv_eq_ediv_of_nonneg (by omega)]
    have b := div_bd (h - u + (u - d) - 1) (u - d) (by omega) (by omega)
    rw [w64 ((h - u + (u - d) - 1) / (u - d)) (by omega) (by omega), w64 _ (by omega) (by omega)]
theorem dayH_pos (u d h : Int) : 0 < dayH u d h ↔ (u ≥ h ∨ u > d) := by
  unfold dayH
  by_cases c1 : h ≤ u
  · rw [if_pos c1]; omega
  · rw [if_neg c1]
    by_cases c2 : u ≤ d
    · rw [if_pos c2]; omega
    · rw [if_neg c2]; have := Int.ediv_nonneg (show 0 ≤ h - u + (u - d) - 1 by omega) (show 0 ≤ u - d by omega); omega
theorem e_snCan (u d h : Int) : spec_snCan.f u d h = some (decide (0 < dayH u d h)) := by
  unfold spec_snCan.f; simp only [dayH_pos]
  by_cases c1 : u ≥ h <;> by_cases c2 : u > d <;> simp [c1, c2]
theorem e_eveningHeight (u d w day : Int) (g : gd u d) (h : gw day) : impl_eveningHeight.f u d w day = some (min w (reach u d day)) := by
  unfold impl_eveningHeight.f; rw [e_reachOf u d day g h]; simp only [Option.bind_some]; unfold mn; congr 1; omega
theorem e_l1Least (a b : Int) : spec_l1Least.f a b = some (min a b) := by
  unfold spec_l1Least.f; split <;> (congr 1; omega)
theorem uniq (a b q r : Int) (hb : 0 < b) (e : b * q + r = a) (h0 : 0 ≤ r) (h1 : r < b) : a / b = q ∧ a % b = r :=
  (Int.ediv_emod_unique hb).mpr ⟨by rw [← e]; exact Int.add_comm _ _, h0, h1⟩
theorem tm_bd (a b : Int) (hb : 0 < b) : b * a.tdiv b + a.tmod b = a ∧ -b < a.tmod b ∧ a.tmod b < b :=
  ⟨Int.mul_tdiv_add_tmod a b, Int.lt_tmod_of_pos a hb, Int.tmod_lt_of_pos a hb⟩
theorem floor_is (a b : Int) (hb : 0 < b) : (if a.tmod b < 0 then a.tdiv b - 1 else a.tdiv b) = a / b := by
  obtain ⟨e, h0, h1⟩ := tm_bd a b hb
  split
  · have := uniq a b (a.tdiv b - 1) (a.tmod b + b) hb (by rw [Int.mul_sub]; omega) (by omega) (by omega)
    exact this.1.symm
  · have := uniq a b (a.tdiv b) (a.tmod b) hb e (by omega) h1
    exact this.1.symm
theorem mod_is (a b : Int) (hb : 0 < b) : (a.tmod b + b).tmod b = a % b := by
  obtain ⟨e, h0, h1⟩ := tm_bd a b hb
  rw [Int.tmod_eq_emod_of_nonneg (by omega), Int.add_emod_right]
  have h := Int.add_mul_emod_self_left (a.tmod b) b (a.tdiv b)
  rw [Int.add_comm, e] at h
  exact h.symm
theorem abs_mx (a : Int) : mx a (-a) = (a.natAbs : Int) := by unfold mx; split <;> omega
theorem gcd_pos (num den : Int) (h : den ≠ 0) : 0 < (Int.gcd num den : Int) := by
  have : 0 < Int.gcd num den := Int.gcd_pos_of_ne_zero_right _ h
  omega
theorem tdiv_ex (a g : Int) (h : g ∣ a) : a.tdiv g = a / g := Int.tdiv_eq_ediv_of_dvd h
def gt (a b : Int) : Prop := 0 ≤ a ∧ a ≤ 1000000 ∧ 1 ≤ b ∧ b ≤ 1000
instance (a b : Int) : Decidable (gt a b) := by unfold gt; infer_instance
def gr (a : Int) : Prop := 1 ≤ a ∧ a ≤ 1000
instance (a : Int) : Decidable (gr a) := by unfold gr; infer_instance
def lowN (num den : Int) : Int := (if den < 0 then -num else num) / (Int.gcd num den : Int)
def lowD (num den : Int) : Int := (if den < 0 then -den else den) / (Int.gcd num den : Int)
def placeV (p s num den : Int) : Int := p * den + s * num
def wpV (p s num den : Int) : Int × Int × Bool := if gk p s ∧ gt num den then (lowN (placeV p s num den) den, lowD (placeV p s num den) den, true) else (0, 0, false)
def gapV (p s p' s' num den : Int) : Int := ((placeV p s num den - placeV p' s' num den).natAbs : Int)
def gaV (p s p' s' num den : Int) : Int × Int × Bool := if (gk p s ∧ gk p' s') ∧ gt num den then (lowN (gapV p s p' s' num den) den, lowD (gapV p s p' s' num den) den, true) else (0, 0, false)
def meetV (p s p' s' : Int) : Int × Int × Bool := if p = p' then (0, 1, true) else if s = s' then (0, 0, false) else if lowN (p' - p) (s - s') < 0 then (0, 0, false) else (lowN (p' - p) (s - s'), lowD (p' - p) (s - s'), true)
def mtV (p s p' s' : Int) : Int × Int × Bool := if gk p s ∧ gk p' s' then meetV p s p' s' else (0, 0, false)
def mpV (p s p' s' : Int) : Int × Int × Bool := if (gk p s ∧ gk p' s') ∧ (meetV p s p' s').2.2 = true then (lowN (placeV p s (meetV p s p' s').1 (meetV p s p' s').2.1) (meetV p s p' s').2.1, lowD (placeV p s (meetV p s p' s').1 (meetV p s p' s').2.1) (meetV p s p' s').2.1, true) else (0, 0, false)
def ringV (a p s p' s' : Int) : Int × Int := if s < s' then ((p - p') % a, s' - s) else ((p' - p) % a, s - s')
def ringV' (a p s p' s' : Int) : Int × Int := if s < s' then ((p - p') % a, s' - s) else ((p' - p) % a, s - s')
def rgV (a p s p' s' : Int) : Int × Int × Bool := if ((gr a ∧ gk p s) ∧ gk p' s') ∧ ¬ s = s' then (lowN a ((s - s').natAbs : Int), lowD a ((s - s').natAbs : Int), true) else (0, 0, false)
def crV (a p s p' s' t : Int) : Int × Bool := if (((gr a ∧ gk p s) ∧ gk p' s') ∧ ¬ s = s') ∧ 0 ≤ t ∧ t ≤ 1000 then (if t * (ringV a p s p' s').2 < (ringV a p s p' s').1 then 0 else (t * (ringV a p s p' s').2 - (ringV a p s p' s').1) / a + 1, true) else (0, false)
theorem div_abs (a g : Int) (hg : 1 ≤ g) (B : Int) (h : -B ≤ a ∧ a ≤ B) : -B ≤ a / g ∧ a / g ≤ B := by
  constructor
  · have : -B ≤ a / g ↔ -B * g ≤ a := Int.le_ediv_iff_mul_le (by omega)
    refine this.mpr ?_
    have hB : 0 ≤ B := by omega
    have := Int.mul_le_mul_of_nonneg_left hg hB
    rw [Int.neg_mul]; omega
  · rcases Int.lt_or_le a 0 with h' | h'
    · have : a / g < 0 ↔ a < 0 * g := Int.ediv_lt_iff_lt_mul (by omega)
      have := this.mpr (by omega)
      omega
    · have := Int.ediv_le_self g h'
      omega
theorem low_bd (num den B : Int) (hd : den ≠ 0) (h1 : -B ≤ num ∧ num ≤ B) (h2 : -B ≤ den ∧ den ≤ B) : (-B ≤ lowN num den ∧ lowN num den ≤ B) ∧ (1 ≤ lowD num den ∧ lowD num den ≤ B) := by
  have hg := gcd_pos num den hd
  refine ⟨?_, ?_⟩
  · unfold lowN; exact div_abs _ _ (by omega) B (by split <;> omega)
  · have h := div_abs (if den < 0 then -den else den) (Int.gcd num den : Int) (by omega) B (by split <;> omega)
    unfold lowD
    refine ⟨?_, h.2⟩
    have hd' : (Int.gcd num den : Int) ∣ (if den < 0 then -den else den) := by
      split
      · exact Int.dvd_neg.mpr (Int.gcd_dvd_right ..)
      · exact Int.gcd_dvd_right ..
    have hp : 0 < (if den < 0 then -den else den) := by split <;> omega
    have := Int.ediv_pos_of_pos_of_dvd hp (by omega) hd'
    omega
theorem lowN_neg (num den : Int) (hd : den ≠ 0) : lowN num den < 0 ↔ (if den < 0 then -num else num) < 0 := by
  have hg := gcd_pos num den hd
  unfold lowN
  have : (if den < 0 then -num else num) / (Int.gcd num den : Int) < 0 ↔ (if den < 0 then -num else num) < 0 * (Int.gcd num den : Int) := Int.ediv_lt_iff_lt_mul (by omega)
  rw [Int.zero_mul] at this
  exact this
theorem ediv_min (a g : Int) (h : g ∣ a) (hg : g ≠ 0) : -a / g = -(a / g) := Int.neg_ediv_of_dvd h
theorem abs_mul (a b A B : Int) (h1 : -A ≤ a ∧ a ≤ A) (h2 : 0 ≤ b ∧ b ≤ B) : -(A * B) ≤ a * b ∧ a * b ≤ A * B := by
  have hA : 0 ≤ A := by omega
  have t : A * b ≤ A * B := Int.mul_le_mul_of_nonneg_left h2.2 hA
  have t1 : a * b ≤ A * b := Int.mul_le_mul_of_nonneg_right h1.2 h2.1
  have t2 : -A * b ≤ a * b := Int.mul_le_mul_of_nonneg_right h1.1 h2.1
  rw [Int.neg_mul] at t2
  omega
theorem rdn (l : List Int) (i : Nat) : rd l (i : Int) = l.getD i 0 := by simp [rd]
theorem drop_cons (l : List Int) (i : Nat) (h : i < l.length) : l.drop i = l.getD i 0 :: l.drop (i + 1) := by
  rw [List.drop_eq_getElem_cons h]; simp [List.getD_eq_getElem?_getD, h]
theorem getD_mem (l : List Int) (i : Nat) (h : i < l.length) : l.getD i 0 ∈ l := by
  simp [List.getD_eq_getElem?_getD, h]
theorem round1 {k n : Nat} (h : n < k) : ∃ m, k = m + 1 ∧ n ≤ m := ⟨k - 1, by omega, by omega⟩
def gs (up : Int) (s : List Int) : Prop := (1 ≤ up ∧ up ≤ 1000) ∧ (1 ≤ (s.length : Int) ∧ (s.length : Int) ≤ 12) ∧ ∀ x ∈ s, 0 ≤ x ∧ x ≤ 1000
instance (up : Int) (s : List Int) : Decidable (gs up s) := by unfold gs; infer_instance
/-- The slip of the night behind day j + 1. -/
def sl (s : List Int) (j : Nat) : Int := s.getD (j % s.length) 0
theorem sl_bd (up : Int) (s : List Int) (g : gs up s) (j : Nat) : 0 ≤ sl s j ∧ sl s j ≤ 1000 := by
  obtain ⟨_, h, ha⟩ := g
  exact ha _ (getD_mem s _ (Nat.mod_lt _ (by omega)))
theorem tmod_nat (j n : Nat) : Int.tmod (j : Int) (n : Int) = ((j % n : Nat) : Int) := by
  rw [Int.tmod_eq_emod_of_nonneg (by omega), Int.natCast_emod]
/-- How far it comes at most: rounds left, day, height in the morning, most so far. -/
def gsL (up : Int) (s : List Int) : Nat → Nat → Int → Int → Int
  | 0, _, _, most => most
  | n + 1, j, m, most => gsL up s n (j + 1) (max 0 (m + up - sl s j)) (max most (m + up))
def gwsV (up : Int) (s : List Int) (days : Int) : Int × Bool := if gs up s ∧ gw days then (gsL up s days.toNat 0 0 0, true) else (0, false)
/-- How high it is in the morning before day j + 1, if there is no top. -/
def mor (up : Int) (s : List Int) : Nat → Int
  | 0 => 0
  | j + 1 => max 0 (mor up s j + up - sl s j)
theorem mor_bd (up : Int) (s : List Int) (g : gs up s) : ∀ j : Nat, 0 ≤ mor up s j ∧ mor up s j ≤ j * 1000 := by
  intro j
  induction j with
  | zero => simp [mor]
  | succ j ih =>
    have hs := sl_bd up s g j
    have g1 := g.1
    simp only [mor]
    omega
theorem sl_per (s : List Int) (j : Nat) : sl s (j + s.length) = sl s j := by unfold sl; rw [Nat.add_mod_right]
theorem mor_step (up : Int) (s : List Int) (a : Nat) (h : mor up s (a + s.length) ≤ mor up s a) : ∀ t, mor up s (a + t + s.length) ≤ mor up s (a + t) := by
  intro t
  induction t with
  | zero => exact h
  | succ t ih =>
    have e : a + (t + 1) + s.length = (a + t + s.length) + 1 := by omega
    rw [e, show a + (t + 1) = (a + t) + 1 by omega]
    simp only [mor]
    rw [sl_per s (a + t)]
    omega
theorem mor_never (up w : Int) (s : List Int) (hs : 1 ≤ s.length) (a : Nat) (h : mor up s (a + s.length) ≤ mor up s a) (hb : ∀ i, i < a + s.length → mor up s i + up < w) : ∀ j, mor up s j + up < w := by
  intro j
  induction j using Nat.strongRecOn with
  | ind j ih =>
    rcases Nat.lt_or_ge j (a + s.length) with h1 | h1
    · exact hb j h1
    · have := mor_step up s a h (j - s.length - a)
      rw [show a + (j - s.length - a) + s.length = j by omega, show a + (j - s.length - a) = j - s.length by omega] at this
      have := ih (j - s.length) (by omega)
      omega
/-- What the day of the top is: the first one, or that there is none. -/
def DS (up : Int) (s : List Int) (w : Int) (r : Int × Bool) : Prop :=
  (∃ j : Nat, r = ((j : Int) + 1, true) ∧ mor up s j + up ≥ w ∧ ∀ i, i < j → mor up s i + up < w) ∨ (r = (0, false) ∧ ∀ j, mor up s j + up < w)
theorem DS_one (up : Int) (s : List Int) (w : Int) (r r' : Int × Bool) (h : DS up s w r) (h' : DS up s w r') : r = r' := by
  rcases h with ⟨j, e, a, b⟩ | ⟨e, a⟩ <;> rcases h' with ⟨j', e', a', b'⟩ | ⟨e', a'⟩
  · rcases Nat.lt_trichotomy j j' with h | h | h
    · have := b' j h; omega
    · rw [e, e', h]
    · have := b j' h; omega
  · have := a' j; omega
  · have := a j'; omega
  · rw [e, e']
/-- Changes of the lead: rounds left, day, the last sign, changes so far. -/
def lcL (f : Int → Int) : Nat → Int → Int → Int → Int
  | 0, _, _, c => c
  | n + 1, day, b, c => if f day = 0 then lcL f n (day + 1) b c else if b ≠ 0 ∧ f day ≠ b then lcL f n (day + 1) (f day) (c + 1) else lcL f n (day + 1) (f day) c
def sgn (x : Int) : Int := if x > 0 then 1 else if x < 0 then -1 else 0
def lsgn (u d u' d' w day : Int) : Int := sgn (min w (reach u d day) - min w (reach u' d' day))
theorem sgn_bd (x : Int) : -1 ≤ sgn x ∧ sgn x ≤ 1 := by unfold sgn; split <;> (try split) <;> omega
def lastL (u d u' d' w : Int) : Int := if dayH u d w = 0 ∨ dayH u' d' w = 0 then max (dayH u d w) (dayH u' d' w) else min (dayH u d w) (dayH u' d' w)
def lcV (u d u' d' w : Int) : Int × Bool := if (gd u d ∧ gw w) ∧ gd u' d' then (if lastL u d u' d' w = 0 then (0, false) else (lcL (lsgn u d u' d' w) (lastL u d u' d' w).toNat 1 0 0, true)) else (0, false)
theorem e_cmp (a b : Int) : cmp_Compare_int.f a b = some (sgn (a - b)) := by
  unfold cmp_Compare_int.f cmp_isNaN_int.f sgn
  simp only [bne_self_eq_false, Option.bind_some, Bool.false_eq_true, if_false]
  by_cases h : a < b
  · rw [if_pos h, if_neg (by omega), if_pos (by omega)]
  · by_cases h2 : a > b
    · rw [if_neg h, if_pos h2, if_pos (by omega)]
    · rw [if_neg h, if_neg h2, if_neg (by omega), if_neg (by omega)]
theorem e_iLc_l0 (u d u' d' w : Int) (g : gd u d) (g' : gd u' d') (hw : gw w) (last : Int) (hl : last ≤ 1000000) : ∀ (n : Nat) (day b c : Int) (k : Nat), day + n = last + 1 → 1 ≤ day → -1 ≤ b → b ≤ 1 → 0 ≤ c → c ≤ day → n < k → impl_LeadChanges.l0 k w last c b day u d u' d' = some (lcL (lsgn u d u' d' w) n day b c, true) := by
  intro n
  induction n with
  | zero =>
    intro day b c k h1 h2 h3 h4 h5 h6 hk
    obtain ⟨k, rfl, hk⟩ := round1 hk
    simp only [impl_LeadChanges.l0, lcL]; rw [if_neg (by omega)]
  | succ n ih =>
    intro day b c k h1 h2 h3 h4 h5 h6 hk
    obtain ⟨k, rfl, hk⟩ := round1 hk
    have hd : gw day := by unfold gw; omega
    simp only [impl_LeadChanges.l0, lcL]
    rw [if_pos (by omega), e_eveningHeight u d w day g hd, e_eveningHeight u' d' w day g' hd]
    simp only [Option.bind_some]
    rw [e_cmp]; simp only [Option.bind_some]
    have sb := sgn_bd (min w (reach u d day) - min w (reach u' d' day))
    rw [show sgn (min w (reach u d day) - min w (reach u' d' day)) = lsgn u d u' d' w day from rfl] at sb ⊢
    generalize lsgn u d u' d' w day = x at *
    rw [w64 (day + 1) (by omega) (by omega), w64 (-x) (by omega) (by omega), w64 (c + 1) (by omega) (by omega)]
    by_cases c1 : x = 0
    · rw [if_pos c1, if_pos c1]; exact ih (day + 1) b c k (by omega) (by omega) h3 h4 h5 (by omega) (by omega)
    · rw [if_neg c1, if_neg c1]
      by_cases c2 : b = -x
      · rw [if_pos c2, if_pos (by omega)]; exact ih (day + 1) x (c + 1) k (by omega) (by omega) (by omega) (by omega) (by omega) (by omega) (by omega)
      · rw [if_neg c2, if_neg (by omega)]; exact ih (day + 1) x c k (by omega) (by omega) (by omega) (by omega) h5 (by omega) (by omega)
theorem top_le (u d w : Int) (g : gd u d) (hw : gw w) : dayH u d w ≤ 1000000 := by
  unfold gd at g; unfold gw at hw; unfold dayH
  split
  · omega
  · split
    · omega
    · have := (ceil_le (w - u) (u - d) 999999 (by omega)).mpr (by have := mul_bd 999999 (u - d) 999999 1000 (by omega) (by omega) (by omega) (by omega); omega)
      omega
theorem e_iLeadChanges (k : Nat) (u d u' d' w : Int) (hk : 3000000 ≤ k) : impl_LeadChanges.f k u d u' d' w = some (lcV u d u' d' w) := by
  obtain ⟨k, rfl⟩ : ∃ m, k = m + 3 := ⟨k - 3, by omega⟩
  unfold impl_LeadChanges.f lcV; rw [e_isWalled, e_iIsSnail]; simp only [Option.bind_some, decide_eq_true_eq, impl_LeadChanges.j0]
  by_cases c : gd u d ∧ gw w
  · by_cases c1 : gd u' d'
    · have hw' := c.2; unfold gw at hw'
      have b1 := dayH_bd u d w c.1 (by omega)
      have b2 := dayH_bd u' d' w c1 (by omega)
      have t1 := top_le u d w c.1 c.2
      have t2 := top_le u' d' w c1 c.2
      rw [if_pos c, if_pos (show (gd u d ∧ gw w) ∧ gd u' d' from ⟨c, c1⟩), e_dayOfHeight u d w c.1 (by omega), e_dayOfHeight u' d' w c1 (by omega)]
      simp only [Option.bind_some, c1, decide_true, Bool.not_true, Bool.false_eq_true, if_false]
      have e1 : mn (dayH u d w) (dayH u' d' w) = min (dayH u d w) (dayH u' d' w) := by unfold mn; omega
      have e2 : mx (dayH u d w) (dayH u' d' w) = max (dayH u d w) (dayH u' d' w) := by unfold mx; omega
      have e3 : (if dayH u d w = 0 then impl_LeadChanges.j1 (k + 2) w (dayH u d w) (dayH u' d' w) (mn (dayH u d w) (dayH u' d' w)) true u d u' d' else impl_LeadChanges.j1 (k + 2) w (dayH u d w) (dayH u' d' w) (mn (dayH u d w) (dayH u' d' w)) (dayH u' d' w == 0) u d u' d') = impl_LeadChanges.j2 (k + 1) w (lastL u d u' d' w) u d u' d' := by
        unfold lastL
        by_cases z1 : dayH u d w = 0
        · rw [if_pos z1, if_pos (Or.inl z1)]; simp only [impl_LeadChanges.j1, if_true]; rw [e2]
        · by_cases z2 : dayH u' d' w = 0
          · rw [if_neg z1, if_pos (Or.inr z2)]; simp only [impl_LeadChanges.j1, z2, beq_self_eq_true, if_true]; rw [z2] at e2; rw [e2]
          · rw [if_neg z1, if_neg (show ¬ (dayH u d w = 0 ∨ dayH u' d' w = 0) by omega)]
            have : (dayH u' d' w == 0) = false := by simp [z2]
            simp only [impl_LeadChanges.j1, this, Bool.false_eq_true, if_false]; rw [e1]
      rw [e3]
      have lb : 0 ≤ lastL u d u' d' w ∧ lastL u d u' d' w ≤ 1000000 := by unfold lastL; split <;> omega
      simp only [impl_LeadChanges.j2]
      by_cases z : lastL u d u' d' w = 0
      · rw [if_pos z, if_pos z]
      · rw [if_neg z, if_neg z, e_iLc_l0 u d u' d' w c.1 c1 c.2 (lastL u d u' d' w) lb.2 (lastL u d u' d' w).toNat 1 0 0 k (by omega) (by omega) (by omega) (by omega) (by omega) (by omega) (by omega)]
    · simp [c, c1]
  · simp [c]
theorem e_l1Sign (a : Int) : spec_l1Sign.f a = some (sgn a) := by
  unfold spec_l1Sign.f sgn; split
  · rfl
  · split <;> rfl
theorem e_sLc_l0 (u d u' d' w : Int) (g : gd u d) (g' : gd u' d') (hw : gw w) (last : Int) (hl : last ≤ 1000000) : ∀ (n : Nat) (day b c : Int) (k : Nat), day + n = last + 1 → 1 ≤ day → -1 ≤ b → b ≤ 1 → 0 ≤ c → c ≤ day → n < k → spec_LeadChanges.l0 k w last c b day u d u' d' = some (lcL (lsgn u d u' d' w) n day b c, true) := by
  have hw' := hw; unfold gw at hw'
  intro n
  induction n with
  | zero =>
    intro day b c k h1 h2 h3 h4 h5 h6 hk
    obtain ⟨k, rfl, hk⟩ := round1 hk
    simp only [spec_LeadChanges.l0, lcL]; rw [if_neg (by omega)]
  | succ n ih =>
    intro day b c k h1 h2 h3 h4 h5 h6 hk
    obtain ⟨k, rfl, hk⟩ := round1 hk
    have hd : gw day := by unfold gw; omega
    have r1 := reach_bd u d day g hd
    have r2 := reach_bd u' d' day g' hd
    have g1 := g; have g2 := g'; unfold gd at g1 g2
    simp only [spec_LeadChanges.l0, lcL]
    rw [if_pos (by omega), e_snEvening u d day g hd, e_snEvening u' d' day g' hd]
    simp only [Option.bind_some, e_l1Least]
    rw [w64 (min w (reach u d day) - min w (reach u' d' day)) (by omega) (by omega), e_l1Sign]; simp only [Option.bind_some]
    have sb := sgn_bd (min w (reach u d day) - min w (reach u' d' day))
    rw [show sgn (min w (reach u d day) - min w (reach u' d' day)) = lsgn u d u' d' w day from rfl] at sb ⊢
    generalize lsgn u d u' d' w day = x at *
    rw [w64 (day + 1) (by omega) (by omega), w64 (c + 1) (by omega) (by omega)]
    by_cases c1 : x = 0
    · rw [if_pos c1, if_pos c1]; exact ih (day + 1) b c k (by omega) (by omega) h3 h4 h5 (by omega) (by omega)
    · rw [if_neg c1, if_neg c1]
      by_cases c3 : b = 0
      · rw [if_pos c3, if_neg (by omega)]; exact ih (day + 1) x c k (by omega) (by omega) (by omega) (by omega) h5 (by omega) (by omega)
      · by_cases c2 : x = b
        · rw [if_neg c3, if_pos c2, if_neg (by omega)]; exact ih (day + 1) x c k (by omega) (by omega) (by omega) (by omega) h5 (by omega) (by omega)
        · rw [if_neg c3, if_neg c2, if_pos ⟨c3, c2⟩]; exact ih (day + 1) x (c + 1) k (by omega) (by omega) (by omega) (by omega) (by omega) (by omega) (by omega)
theorem e_sLeadChanges (k : Nat) (u d u' d' w : Int) (hk : 3000000 ≤ k) : spec_LeadChanges.f k u d u' d' w = some (lcV u d u' d' w) := by
  obtain ⟨k, rfl⟩ : ∃ m, k = m + 3 := ⟨k - 3, by omega⟩
  unfold spec_LeadChanges.f lcV; rw [e_snTwo]; simp only [Option.bind_some, decide_eq_true_eq, e_snCan]
  by_cases c : gd u d ∧ gw w
  · by_cases c1 : gd u' d'
    · have hw' := c.2; unfold gw at hw'
      have b1 := dayH_bd u d w c.1 (by omega)
      have b2 := dayH_bd u' d' w c1 (by omega)
      have t1 := top_le u d w c.1 c.2
      have t2 := top_le u' d' w c1 c.2
      have p1 := dayH_pos u d w
      have p2 := dayH_pos u' d' w
      rw [if_pos (show (gd u d ∧ gw w) ∧ gd u' d' from ⟨c, c1⟩), if_pos (show (gd u d ∧ gw w) ∧ gd u' d' from ⟨c, c1⟩)]
      have e2 : ∀ last, 1 ≤ last → last ≤ 1000000 → spec_LeadChanges.j2 (k + 1) w last u d u' d' = some (lcL (lsgn u d u' d' w) last.toNat 1 0 0, true) := fun last h1 h2 => by
        simp only [spec_LeadChanges.j2]
        exact e_sLc_l0 u d u' d' w c.1 c1 c.2 last h2 last.toNat 1 0 0 k (by omega) (by omega) (by omega) (by omega) (by omega) (by omega) (by omega)
      have e1 : ∀ last, 1 ≤ last → last ≤ 1000000 → spec_LeadChanges.j1 (k + 2) w last u d u' d' = some (lcL (lsgn u d u' d' w) (if 0 < dayH u' d' w then min last (dayH u' d' w) else last).toNat 1 0 0, true) := fun last h1 h2 => by
        simp only [spec_LeadChanges.j1, e_snCan, Option.bind_some, decide_eq_true_eq]
        by_cases z : 0 < dayH u' d' w
        · rw [if_pos z, if_pos z, e_snDays u' d' w c1 (by omega) (p2.mp z)]
          simp only [Option.bind_some, e_l1Least]
          exact e2 _ (by omega) (by omega)
        · rw [if_neg z, if_neg z]; exact e2 _ h1 h2
      by_cases z1 : 0 < dayH u d w
      · rw [if_pos z1]
        simp only [spec_LeadChanges.j0, Bool.false_eq_true, if_false, e_snCan, Option.bind_some, decide_eq_true_eq]
        rw [if_pos z1, e_snDays u d w c.1 (by omega) (p1.mp z1)]
        simp only [Option.bind_some]
        rw [e1 _ (by omega) t1]
        have : lastL u d u' d' w = (if 0 < dayH u' d' w then min (dayH u d w) (dayH u' d' w) else dayH u d w) := by unfold lastL; split <;> split <;> omega
        have nz : ¬ lastL u d u' d' w = 0 := by rw [this]; split <;> omega
        rw [if_neg nz, this]
      · rw [if_neg z1]
        by_cases z2 : 0 < dayH u' d' w
        · simp only [z2, decide_true, Bool.not_true, spec_LeadChanges.j0, Bool.false_eq_true, if_false, e_snCan, Option.bind_some, decide_eq_true_eq]
          rw [if_neg z1, e1 _ (by omega) (by omega)]
          have : lastL u d u' d' w = (if 0 < dayH u' d' w then min 1000000 (dayH u' d' w) else 1000000) := by unfold lastL; rw [if_pos (by omega), if_pos z2]; omega
          have nz : ¬ lastL u d u' d' w = 0 := by rw [this]; split <;> omega
          rw [if_neg nz, this]
        · simp only [z2, decide_false, Bool.not_false, spec_LeadChanges.j0, if_true]
          have : lastL u d u' d' w = 0 := by unfold lastL; rw [if_pos (by omega)]; omega
          rw [if_pos this]
    · rw [if_neg (show ¬ ((gd u d ∧ gw w) ∧ gd u' d') from fun z => c1 z.2), if_neg (show ¬ ((gd u d ∧ gw w) ∧ gd u' d') from fun z => c1 z.2)]; simp only [spec_LeadChanges.j0, if_true]
  · rw [if_neg (show ¬ ((gd u d ∧ gw w) ∧ gd u' d') from fun z => c z.1), if_neg (show ¬ ((gd u d ∧ gw w) ∧ gd u' d') from fun z => c z.1)]; simp only [spec_LeadChanges.j0, if_true]

theorem FnExactLeadChanges : ∀ (a0_0 : Int) (a0_1 : Int) (a1_0 : Int) (a1_1 : Int) (a2 : Int), (Lit.int .i64 a0_0).wf = true → (Lit.int .i64 a0_1).wf = true → (Lit.int .i64 a1_0).wf = true → (Lit.int .i64 a1_1).wf = true → (Lit.int .i64 a2).wf = true → ∃ k, laws_FnExactLeadChanges.f k a0_0 a0_1 a1_0 a1_1 a2 = some true := by
  intros
  refine ⟨10000000, ?_⟩
  unfold laws_FnExactLeadChanges.f
  simp [e_toSnail, e_sLeadChanges, e_iLeadChanges]

end Go.Proofs.Ytbbglmoenjdloaa.Pure
