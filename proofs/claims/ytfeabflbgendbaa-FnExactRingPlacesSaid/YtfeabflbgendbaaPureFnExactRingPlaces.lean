/- The pure statement of the law FnExactRingPlaces: what the program's function computes is what the reference's computes. -/
import Derived.Test.YtfeabflbgendbaaRpLaw
namespace Go.Proofs.Ytfeabflbgendbaa.Pure
open Go.RowKit Go.Proofs.Ytfeabflbgendbaa.OFnExactRingPlaces Go.Proofs.YtfeabflbgendbaaW.PrintWords Go.Proofs.YtfeabflbgendbaaW.PrintLast Go.Proofs.YtfeabflbgendbaaW.PrintMore
set_option linter.unusedVariables false
set_option linter.unusedSimpArgs false
theorem w64 (n : Int) (h1 : -9223372036854775808 ≤ n) (h2 : n ≤ 9223372036854775807) : wrap64 n = n := by unfold wrap64; omega
theorem dec_and (p q : Prop) [Decidable p] [Decidable q] [Decidable (p ∧ q)] : (if p then some (decide q) else some false) = some (decide (p ∧ q)) := by
  by_cases h : p <;> by_cases h' : q <;> simp [h, h']
theorem le_cases (a b c : Int) : (if a ≥ b then some (decide (a ≤ c)) else some false) = some (decide (b ≤ a ∧ a ≤ c)) := by
  by_cases h : b ≤ a <;> by_cases h' : a ≤ c <;> simp [h, h']
def gd (u d : Int) : Prop := 1 ≤ u ∧ u ≤ 1000 ∧ 0 ≤ d ∧ d ≤ 1000
instance (u d : Int) : Decidable (gd u d) := by unfold gd; infer_instance
def gk (p s : Int) : Prop := -1000 ≤ p ∧ p ≤ 1000 ∧ -100 ≤ s ∧ s ≤ 100
instance (p s : Int) : Decidable (gk p s) := by unfold gk; infer_instance
def gw (w : Int) : Prop := 1 ≤ w ∧ w ≤ 1000000
instance (w : Int) : Decidable (gw w) := by unfold gw; infer_instance
def reach (u d day : Int) : Int := if u ≤ d then u else u + (day - 1) * (u - d)
def dayH (u d h : Int) : Int := if h ≤ u then 1 else if u ≤ d then 0 else 1 + (h - u + (u - d) - 1) / (u - d)
theorem mul_bd (a b A B : Int) (h1 : 0 ≤ a) (h2 : a ≤ A) (h3 : 0 ≤ b) (h4 : b ≤ B) : 0 ≤ a * b ∧ a * b ≤ A * B :=
  ⟨Int.mul_nonneg h1 h3, Int.mul_le_mul h2 h4 h3 (by omega)⟩
theorem reach_bd (u d day : Int) (g : gd u d) (w : gw day) : u ≤ reach u d day ∧ reach u d day ≤ 1000000000 := by
  unfold gd at g; unfold gw at w; unfold reach
  split
  · omega
  · have := mul_bd (day - 1) (u - d) 999999 1000 (by omega) (by omega) (by omega) (by omega)
    omega
theorem div_bd (x g : Int) (hg : 1 ≤ g) (hx : 0 ≤ x) : 0 ≤ x / g ∧ x / g ≤ x :=
  ⟨Int.ediv_nonneg hx (by omega), Int.ediv_le_self _ hx⟩
theorem dayH_bd (u d h : Int) (g : gd u d) (hh : h ≤ 1000000) : 0 ≤ dayH u d h ∧ dayH u d h ≤ 1001000 := by
  unfold gd at g; unfold dayH
  split
  · omega
  · split
    · omega
    · have := div_bd (h - u + (u - d) - 1) (u - d) (by omega) (by omega)
      omega
theorem ceil_le (x g n : Int) (hg : 1 ≤ g) : (x + g - 1) / g ≤ n ↔ x ≤ n * g := by
  have h : (x + g - 1) / g < n + 1 ↔ x + g - 1 < (n + 1) * g := Int.ediv_lt_iff_lt_mul (by omega)
  have e : (n + 1) * g = n * g + g := by rw [Int.add_mul, Int.one_mul]
  rw [e] at h
  constructor
  · intro k; have := h.mp (by omega); omega
  · intro k; have := h.mpr (by omega); omega
/-- The day is reached at the end of a day just if that day is not before it. -/
theorem dayH_le (u d h day : Int) (hd : 1 ≤ day) : (0 < dayH u d h ∧ dayH u d h ≤ day) ↔ h ≤ reach u d day := by
  unfold dayH reach
  by_cases h1 : h ≤ u
  · rw [if_pos h1]
    split
    · omega
    · have := Int.mul_nonneg (show 0 ≤ day - 1 by omega) (show 0 ≤ u - d by omega)
      omega
  · rw [if_neg h1]
    by_cases h2 : u ≤ d
    · rw [if_pos h2, if_pos h2]; omega
    · rw [if_neg h2, if_neg h2]
      have a := Int.ediv_nonneg (show 0 ≤ h - u + (u - d) - 1 by omega) (show 0 ≤ u - d by omega)
      have c := ceil_le (h - u) (u - d) (day - 1) (by omega)
      constructor
      · rintro ⟨_, k⟩; have := c.mp (by omega); omega
      · intro k; have := c.mpr (by omega); omega
def daysV (u d w : Int) : Int × Bool := if gd u d ∧ gw w then (dayH u d w, decide (0 < dayH u d w)) else (0, false)
def greatV (u d w : Int) : Int × Bool := if gd u d ∧ gw w then (reach u d w, true) else (0, false)
def evenV (u d w day : Int) : Int × Bool := if (gd u d ∧ gw w) ∧ gw day then (min w (reach u d day), true) else (0, false)
def mornV (u d w day : Int) : Int × Bool := if (gd u d ∧ gw w) ∧ gw day then (if day = 1 then 0 else if min w (reach u d (day - 1)) = w then w else max 0 (min w (reach u d (day - 1)) - d), true) else (0, false)
def mornI (u d w day : Int) : Int := if day = 1 then 0 else if min w (reach u d (day - 1)) = w then w else max 0 (min w (reach u d (day - 1)) - d)
def dayV (u d w h : Int) : Int × Bool := if (gd u d ∧ gw w) ∧ 0 ≤ h ∧ h ≤ w then (dayH u d h, decide (0 < dayH u d h)) else (0, false)
def leadV (u d u' d' w day : Int) : Int × Bool := if ((gd u d ∧ gw w) ∧ gd u' d') ∧ gw day then (min w (reach u d day) - min w (reach u' d' day), true) else (0, false)
def upL (P : Int → Bool) : Nat → Int → Int × Bool
  | 0, _ => (0, false)
  | n + 1, up => if P up = true then (up, true) else upL P n (up + 1)
def slowP (w days d up : Int) : Bool := decide (w ≤ reach up d days)
def slowV (w days d : Int) : Int × Bool := if (gw w ∧ gw days) ∧ 0 ≤ d ∧ d ≤ 1000 then upL (slowP w days d) 1000 1 else (0, false)
def downL (P : Int → Bool) : Nat → Int → Int × Bool
  | 0, _ => (0, false)
  | n + 1, x => if P x = true then (x, true) else downL P n (x - 1)
def mostP (w days u x : Int) : Bool := decide (w ≤ reach u x days)
def mostV (w days u : Int) : Int × Bool := if (gw w ∧ gw days) ∧ 1 ≤ u ∧ u ≤ 1000 then downL (mostP w days u) 1001 1000 else (0, false)
theorem e_within (a b c : Int) : impl_within.f a b c = some (decide (b ≤ a ∧ a ≤ c)) := by
  unfold impl_within.f; exact le_cases a b c
theorem e_l1In (a b c : Int) : spec_l1In.f a b c = some (decide (b ≤ a ∧ a ≤ c)) := by
  unfold spec_l1In.f; exact le_cases a b c
theorem e_toWalker (u d : Int) : laws_toWalker.f u d = some (u, d) := rfl
theorem e_iIsWalker (u d : Int) : impl_IsWalker.f u d = some (decide (gk u d)) := by
  unfold impl_IsWalker.f; simp only [e_within, Option.bind_some]
  by_cases h : -1000 ≤ u ∧ u ≤ 1000 <;> by_cases h' : -100 ≤ d ∧ d ≤ 100 <;> simp [gk, h, h'] <;> omega
theorem e_meGood (u d : Int) : spec_meGood.f u d = some (decide (gk u d)) := by
  unfold spec_meGood.f; simp only [e_l1In, Option.bind_some]
  by_cases h : -1000 ≤ u ∧ u ≤ 1000 <;> by_cases h' : -100 ≤ d ∧ d ≤ 100 <;> simp [gk, h, h'] <;> omega
theorem e_l1Most (a b : Int) : spec_l1Most.f a b = some (max a b) := by
  unfold spec_l1Most.f; split <;> (congr 1; omega)
theorem uniq (a b q r : Int) (hb : 0 < b) (e : b * q + r = a) (h0 : 0 ≤ r) (h1 : r < b) : a / b = q ∧ a % b = r :=
  (Int.ediv_emod_unique hb).mpr ⟨by rw [← e]; exact Int.add_comm _ _, h0, h1⟩
theorem tm_bd (a b : Int) (hb : 0 < b) : b * a.tdiv b + a.tmod b = a ∧ -b < a.tmod b ∧ a.tmod b < b :=
  ⟨Int.mul_tdiv_add_tmod a b, Int.lt_tmod_of_pos a hb, Int.tmod_lt_of_pos a hb⟩
theorem floor_is (a b : Int) (hb : 0 < b) : (if a.tmod b < 0 then a.tdiv b - 1 else a.tdiv b) = a / b := by
  obtain ⟨e, h0, h1⟩ := tm_bd a b hb
  split
  · have := uniq a b (a.tdiv b - 1) (a.tmod b + b) hb (by rw [Int.mul_sub]; omega) (by omega) (by omega)
    exact this.1.symm
  · have := uniq a b (a.tdiv b) (a.tmod b) hb e (by omega) h1
    exact this.1.symm
theorem mod_is (a b : Int) (hb : 0 < b) : (a.tmod b + b).tmod b = a % b := by
  obtain ⟨e, h0, h1⟩ := tm_bd a b hb
  rw [Int.tmod_eq_emod_of_nonneg (by omega), Int.add_emod_right]
  have h := Int.add_mul_emod_self_left (a.tmod b) b (a.tdiv b)
  rw [Int.add_comm, e] at h
  exact h.symm
theorem abs_mx (a : Int) : mx a (-a) = (a.natAbs : Int) := by unfold mx; split <;> omega
theorem gcd_pos (num den : Int) (h : den ≠ 0) : 0 < (Int.gcd num den : Int) := by
  have : 0 < Int.gcd num den := Int.gcd_pos_of_ne_zero_right _ h
  omega
theorem tdiv_ex (a g : Int) (h : g ∣ a) : a.tdiv g = a / g := Int.tdiv_eq_ediv_of_dvd h
def gt (a b : Int) : Prop := 0 ≤ a ∧ a ≤ 1000000 ∧ 1 ≤ b ∧ b ≤ 1000
instance (a b : Int) : Decidable (gt a b) := by unfold gt; infer_instance
def gr (a : Int) : Prop := 1 ≤ a ∧ a ≤ 1000
instance (a : Int) : Decidable (gr a) := by unfold gr; infer_instance
def lowN (num den : Int) : Int := (if den < 0 then -num else num) / (Int.gcd num den : Int)
def lowD (num den : Int) : Int := (if den < 0 then -den else den) / (Int.gcd num den : Int)
def placeV (p s num den : Int) : Int := p * den + s * num
def wpV (p s num den : Int) : Int × Int × Bool := if gk p s ∧ gt num den then (lowN (placeV p s num den) den, lowD (placeV p s num den) den, true) else (0, 0, false)
def gapV (p s p' s' num den : Int) : Int := ((placeV p s num den - placeV p' s' num den).natAbs : Int)
def gaV (p s p' s' num den : Int) : Int × Int × Bool := if (gk p s ∧ gk p' s') ∧ gt num den then (lowN (gapV p s p' s' num den) den, lowD (gapV p s p' s' num den) den, true) else (0, 0, false)
def meetV (p s p' s' : Int) : Int × Int × Bool := if p = p' then (0, 1, true) else if s = s' then (0, 0, false) else if lowN (p' - p) (s - s') < 0 then (0, 0, false) else (lowN (p' - p) (s - s'), lowD (p' - p) (s - s'), true)
def mtV (p s p' s' : Int) : Int × Int × Bool := if gk p s ∧ gk p' s' then meetV p s p' s' else (0, 0, false)
def mpV (p s p' s' : Int) : Int × Int × Bool := if (gk p s ∧ gk p' s') ∧ (meetV p s p' s').2.2 = true then (lowN (placeV p s (meetV p s p' s').1 (meetV p s p' s').2.1) (meetV p s p' s').2.1, lowD (placeV p s (meetV p s p' s').1 (meetV p s p' s').2.1) (meetV p s p' s').2.1, true) else (0, 0, false)
def ringV (a p s p' s' : Int) : Int × Int := if s < s' then ((p - p') % a, s' - s) else ((p' - p) % a, s - s')
def ringV' (a p s p' s' : Int) : Int × Int := if s < s' then ((p - p') % a, s' - s) else ((p' - p) % a, s - s')
def rgV (a p s p' s' : Int) : Int × Int × Bool := if ((gr a ∧ gk p s) ∧ gk p' s') ∧ ¬ s = s' then (lowN a ((s - s').natAbs : Int), lowD a ((s - s').natAbs : Int), true) else (0, 0, false)
def crV (a p s p' s' t : Int) : Int × Bool := if (((gr a ∧ gk p s) ∧ gk p' s') ∧ ¬ s = s') ∧ 0 ≤ t ∧ t ≤ 1000 then (if t * (ringV a p s p' s').2 < (ringV a p s p' s').1 then 0 else (t * (ringV a p s p' s').2 - (ringV a p s p' s').1) / a + 1, true) else (0, false)
theorem div_abs (a g : Int) (hg : 1 ≤ g) (B : Int) (h : -B ≤ a ∧ a ≤ B) : -B ≤ a / g ∧ a / g ≤ B := by
  constructor
  · have : -B ≤ a / g ↔ -B * g ≤ a := Int.le_ediv_iff_mul_le (by omega)
    refine this.mpr ?_
    have hB : 0 ≤ B := by omega
    have := Int.mul_le_mul_of_nonneg_left hg hB
    rw [Int.neg_mul]; omega
  · rcases Int.lt_or_le a 0 with h' | h'
    · have : a / g < 0 ↔ a < 0 * g := Int.ediv_lt_iff_lt_mul (by omega)
      have := this.mpr (by omega)
      omega
    · have := Int.ediv_le_self g h'
      omega
theorem low_bd (num den B : Int) (hd : den ≠ 0) (h1 : -B ≤ num ∧ num ≤ B) (h2 : -B ≤ den ∧ den ≤ B) : (-B ≤ lowN num den ∧ lowN num den ≤ B) ∧ (1 ≤ lowD num den ∧ lowD num den ≤ B) := by
  have hg := gcd_pos num den hd
  refine ⟨?_, ?_⟩
  · unfold lowN; exact div_abs _ _ (by omega) B (by split <;> omega)
  · have h := div_abs (if den < 0 then -den else den) (Int.gcd num den : Int) (by omega) B (by split <;> omega)
    unfold lowD
    refine ⟨?_, h.2⟩
    have hd' : (Int.gcd num den : Int) ∣ (if den < 0 then -den else den) := by
      split
      · exact Int.dvd_neg.mpr (Int.gcd_dvd_right ..)
      · exact Int.gcd_dvd_right ..
    have hp : 0 < (if den < 0 then -den else den) := by split <;> omega
    have := Int.ediv_pos_of_pos_of_dvd hp (by omega) hd'
    omega
theorem lowN_neg (num den : Int) (hd : den ≠ 0) : lowN num den < 0 ↔ (if den < 0 then -num else num) < 0 := by
  have hg := gcd_pos num den hd
  unfold lowN
  have : (if den < 0 then -num else num) / (Int.gcd num den : Int) < 0 ↔ (if den < 0 then -num else num) < 0 * (Int.gcd num den : Int) := Int.ediv_lt_iff_lt_mul (by omega)
  rw [Int.zero_mul] at this
  exact this
theorem ediv_min (a g : Int) (h : g ∣ a) (hg : g ≠ 0) : -a / g = -(a / g) := Int.neg_ediv_of_dvd h
theorem abs_mul (a b A B : Int) (h1 : -A ≤ a ∧ a ≤ A) (h2 : 0 ≤ b ∧ b ≤ B) : -(A * B) ≤ a * b ∧ a * b ≤ A * B := by
  have hA : 0 ≤ A := by omega
  have t : A * b ≤ A * B := Int.mul_le_mul_of_nonneg_left h2.2 hA
  have t1 : a * b ≤ A * b := Int.mul_le_mul_of_nonneg_right h1.2 h2.1
  have t2 : -A * b ≤ a * b := Int.mul_le_mul_of_nonneg_right h1.1 h2.1
  rw [Int.neg_mul] at t2
  omega
theorem e_absOf (a : Int) (h1 : -9000000000000000000 ≤ a) (h2 : a ≤ 9000000000000000000) : impl_absOf.f a = some (a.natAbs : Int) := by
  unfold impl_absOf.f; rw [w64 (-a) (by omega) (by omega), abs_mx]
theorem e_l1Most' (a b : Int) : spec_l1Most.f a b = some (max a b) := by
  unfold spec_l1Most.f; split <;> (congr 1; omega)
theorem e_l1Abs (a : Int) (h1 : -9000000000000000000 ≤ a) (h2 : a ≤ 9000000000000000000) : spec_l1Abs.f a = some (a.natAbs : Int) := by
  unfold spec_l1Abs.f; rw [w64 (-a) (by omega) (by omega), e_l1Most']; simp only [Option.bind_some]; congr 1; omega
theorem e_div_l0 : ∀ (b a : Nat) (k : Nat), b < k → impl_divisorOf.l0 k (a : Int) (b : Int) = some ((Nat.gcd a b : Nat) : Int) := by
  intro b
  induction b using Nat.strongRecOn with
  | ind b ih =>
    intro a k hk
    obtain ⟨k, rfl⟩ : ∃ m, k = m + 1 := ⟨k - 1, by omega⟩
    simp only [impl_divisorOf.l0]
    by_cases h : b = 0
    · subst h; simp
    · have hm := Nat.mod_lt a (show b > 0 by omega)
      rw [if_pos (by omega), if_neg (by omega), Int.tmod_eq_emod_of_nonneg (by omega), ← Int.natCast_emod, ih (a % b) hm b k (by omega)]
      congr 2
      rw [Nat.gcd_comm a b, Nat.gcd_rec b a, Nat.gcd_comm]
theorem e_divisorOf (k : Nat) (a b : Int) (ha : 0 ≤ a) (hb : 0 ≤ b) (hk : b < k) : impl_divisorOf.f k a b = some (Int.gcd a b : Int) := by
  unfold impl_divisorOf.f
  have := e_div_l0 b.natAbs a.natAbs k (by omega)
  rw [show ((a.natAbs : Nat) : Int) = a by omega, show ((b.natAbs : Nat) : Int) = b by omega] at this
  exact this
theorem e_lowest (k : Nat) (num den B : Int) (hd : den ≠ 0) (hB : B ≤ 4000000000000000000) (h1 : -B ≤ num ∧ num ≤ B) (h2 : -B ≤ den ∧ den ≤ B) (hk : B < k) : impl_lowest.f k num den = some (lowN num den, lowD num den) := by
  have hb := low_bd num den B hd h1 h2
  have hg := gcd_pos num den hd
  have d1 : (Int.gcd num den : Int) ∣ num := Int.gcd_dvd_left ..
  have d2 : (Int.gcd num den : Int) ∣ den := Int.gcd_dvd_right ..
  unfold impl_lowest.f
  by_cases c : den < 0
  · rw [if_pos c, w64 (-num) (by omega) (by omega), w64 (-den) (by omega) (by omega), e_absOf _ (by omega) (by omega)]
    simp only [Option.bind_some]
    rw [e_divisorOf k _ _ (by omega) (by omega) (by omega)]
    have e : Int.gcd (-den) (((-num).natAbs : Nat) : Int) = Int.gcd num den := by
      rw [Int.gcd_comm num den]; simp [Int.gcd]
    simp only [Option.bind_some]
    rw [e, if_neg (by omega), tdiv_ex _ _ (Int.dvd_neg.mpr d1), tdiv_ex _ _ (Int.dvd_neg.mpr d2)]
    unfold lowN lowD at hb ⊢
    rw [if_pos c, if_pos c] at hb
    rw [if_pos c, if_pos c, w64 _ (by omega) (by omega), w64 _ (by omega) (by omega)]
  · rw [if_neg c, e_absOf _ (by omega) (by omega)]
    simp only [Option.bind_some]
    rw [e_divisorOf k _ _ (by omega) (by omega) (by omega)]
    have e : Int.gcd den ((num.natAbs : Nat) : Int) = Int.gcd num den := by
      rw [Int.gcd_comm num den]; simp [Int.gcd]
    simp only [Option.bind_some]
    rw [e, if_neg (by omega), tdiv_ex _ _ d1, tdiv_ex _ _ d2]
    unfold lowN lowD at hb ⊢
    rw [if_neg c, if_neg c] at hb
    rw [if_neg c, if_neg c, w64 _ (by omega) (by omega), w64 _ (by omega) (by omega)]
theorem e_meLow_l0 (x y : Int) (B : Int) (hB : B ≤ 4000000000000000000) (h1 : -B ≤ x ∧ x ≤ B) (h2 : 1 ≤ y ∧ y ≤ B) : ∀ (b a : Nat) (k : Nat), b < k → (Nat.gcd a b) = Int.gcd x y → spec_meLow.l0 k x y (a : Int) (b : Int) = some (x / (Int.gcd x y : Int), y / (Int.gcd x y : Int)) := by
  intro b
  induction b using Nat.strongRecOn with
  | ind b ih =>
    intro a k hk hg
    obtain ⟨k, rfl⟩ : ∃ m, k = m + 1 := ⟨k - 1, by omega⟩
    simp only [spec_meLow.l0]
    by_cases h : b = 0
    · subst h
      have hp := gcd_pos x y (by omega)
      have d1 : (Int.gcd x y : Int) ∣ x := Int.gcd_dvd_left ..
      have d2 : (Int.gcd x y : Int) ∣ y := Int.gcd_dvd_right ..
      have b1 := div_abs x (Int.gcd x y : Int) (by omega) B h1
      have b2 := div_abs y (Int.gcd x y : Int) (by omega) B (by omega)
      rw [Nat.gcd_zero_right] at hg
      subst hg
      rw [if_neg (by omega), if_neg (by omega), tdiv_ex _ _ d1, tdiv_ex _ _ d2, w64 _ (by omega) (by omega), w64 _ (by omega) (by omega)]
    · have hm := Nat.mod_lt a (show b > 0 by omega)
      rw [if_pos (by omega), if_neg (by omega), Int.tmod_eq_emod_of_nonneg (by omega), ← Int.natCast_emod]
      refine ih (a % b) hm b k (by omega) ?_
      rw [← hg, Nat.gcd_comm a b, Nat.gcd_rec b a, Nat.gcd_comm]
theorem e_meLow (k : Nat) (num den B : Int) (hd : den ≠ 0) (hB : B ≤ 4000000000000000000) (h1 : -B ≤ num ∧ num ≤ B) (h2 : -B ≤ den ∧ den ≤ B) (hk : B + 1 < k) : spec_meLow.f k num den = some (lowN num den, lowD num den) := by
  obtain ⟨k, rfl⟩ : ∃ m, k = m + 1 := ⟨k - 1, by omega⟩
  unfold spec_meLow.f lowN lowD
  by_cases c : den < 0
  · rw [if_pos c, if_pos c, if_pos c, w64 (-num) (by omega) (by omega), w64 (-den) (by omega) (by omega)]
    simp only [spec_meLow.j0]
    rw [e_l1Abs _ (by omega) (by omega)]
    simp only [Option.bind_some]
    have := e_meLow_l0 (-num) (-den) B hB (by omega) (by omega) (-den).natAbs (-num).natAbs k (by omega) rfl
    rw [show (((-den).natAbs : Nat) : Int) = -den by omega] at this
    rw [this]; simp [Int.gcd]
  · rw [if_neg c, if_neg c, if_neg c]
    simp only [spec_meLow.j0]
    rw [e_l1Abs _ (by omega) (by omega)]
    simp only [Option.bind_some]
    have := e_meLow_l0 num den B hB (by omega) (by omega) den.natAbs num.natAbs k (by omega) rfl
    rw [show ((den.natAbs : Nat) : Int) = den by omega] at this
    rw [this]
theorem e_isRing (a : Int) : impl_isRing.f a = some (decide (gr a)) := by
  unfold impl_isRing.f; simp only [e_within, Option.bind_some]; rfl
theorem e_meRing (a p s p' s' : Int) : spec_meRing.f a p s p' s' = some (decide ((gr a ∧ gk p s) ∧ gk p' s')) := by
  unfold spec_meRing.f; simp only [e_l1In, e_meGood, Option.bind_some]
  by_cases h : 1 ≤ a ∧ a ≤ 1000 <;> by_cases h' : gk p s <;> by_cases h2 : gk p' s' <;> simp [gr, h, h', h2] <;> omega
theorem e_floorDiv (a b : Int) (hb : 0 < b) (B : Int) (hB : B ≤ 4000000000000000000) (h : -B ≤ a ∧ a ≤ B) : impl_floorDiv.f a b = some (a / b) ∧ (-B ≤ a / b ∧ a / b ≤ B) := by
  have q := div_abs a b (by omega) B h
  have f := floor_is a b hb
  unfold impl_floorDiv.f
  rw [if_neg (by omega)]
  refine ⟨?_, q⟩
  by_cases c : a.tmod b < 0
  · rw [if_pos c] at f
    rw [if_pos c, w64 (a.tdiv b) (by omega) (by omega), f, w64 _ (by omega) (by omega)]
  · rw [if_neg c] at f
    rw [if_neg c, f, w64 _ (by omega) (by omega)]
theorem e_around (a b : Int) (hb : 0 < b) (B : Int) (hB : B ≤ 2000000000000000000) (h : -B ≤ a ∧ a ≤ B) (hbB : b ≤ B) : impl_around.f a b = some (a % b) := by
  have q := e_floorDiv a b hb B (by omega) h
  unfold impl_around.f
  rw [q.1]; simp only [Option.bind_some]
  have e := Int.mul_ediv_add_emod a b
  have m0 := Int.emod_nonneg a (show b ≠ 0 by omega)
  have m1 := Int.emod_lt_of_pos a hb
  rw [w64 (b * (a / b)) (by omega) (by omega), w64 _ (by omega) (by omega)]
  congr 1; omega
theorem e_meMod (a b : Int) (hb : 0 < b) (hB : b ≤ 2000000000000000000) : spec_meMod.f a b = some (a % b) := by
  have t := tm_bd a b hb
  unfold spec_meMod.f
  rw [if_neg (by omega), w64 _ (by omega) (by omega), mod_is a b hb]
theorem e_ringGap (a p s p' s' : Int) (ga : gr a) (g : gk p s) (g' : gk p' s') : impl_ringGap.f a p s p' s' = some (ringV a p s p' s') := by
  unfold gr at ga; unfold gk at g g'; unfold impl_ringGap.f ringV
  by_cases c : s < s'
  · rw [if_pos c, if_pos c, w64 (p - p') (by omega) (by omega), e_around _ _ (by omega) 10000 (by omega) (by omega) (by omega), w64 _ (by omega) (by omega)]; rfl
  · rw [if_neg c, if_neg c, w64 (p' - p) (by omega) (by omega), e_around _ _ (by omega) 10000 (by omega) (by omega) (by omega), w64 _ (by omega) (by omega)]; rfl
theorem ring_bd (a p s p' s' : Int) (ga : gr a) (g : gk p s) (g' : gk p' s') : (0 ≤ (ringV a p s p' s').1 ∧ (ringV a p s p' s').1 < a) ∧ (0 ≤ (ringV a p s p' s').2 ∧ (ringV a p s p' s').2 ≤ 200) ∧ ((ringV a p s p' s').2 = 0 ↔ s = s') := by
  unfold gr at ga; unfold gk at g g'; unfold ringV
  split
  · have m0 := Int.emod_nonneg (p - p') (show a ≠ 0 by omega)
    have m1 := Int.emod_lt_of_pos (p - p') (show 0 < a by omega)
    simp only; omega
  · have m0 := Int.emod_nonneg (p' - p) (show a ≠ 0 by omega)
    have m1 := Int.emod_lt_of_pos (p' - p) (show 0 < a by omega)
    simp only; omega
theorem e_meAhead (a p s p' s' : Int) (ga : gr a) (g : gk p s) (g' : gk p' s') : spec_meAhead.f a p s p' s' = some (ringV' a p s p' s') := by
  unfold gr at ga; unfold gk at g g'; unfold spec_meAhead.f ringV'
  by_cases c : s < s'
  · rw [if_pos c, if_pos c, w64 (p - p') (by omega) (by omega), e_meMod _ _ (by omega) (by omega), w64 _ (by omega) (by omega)]; rfl
  · rw [if_neg c, if_neg c, w64 (p' - p) (by omega) (by omega), e_meMod _ _ (by omega) (by omega), w64 _ (by omega) (by omega)]; rfl
theorem rdn (l : List Int) (i : Nat) : rd l (i : Int) = l.getD i 0 := by simp [rd]
theorem drop_cons (l : List Int) (i : Nat) (h : i < l.length) : l.drop i = l.getD i 0 :: l.drop (i + 1) := by
  rw [List.drop_eq_getElem_cons h]; simp [List.getD_eq_getElem?_getD, h]
theorem getD_mem (l : List Int) (i : Nat) (h : i < l.length) : l.getD i 0 ∈ l := by
  simp [List.getD_eq_getElem?_getD, h]
theorem round1 {k n : Nat} (h : n < k) : ∃ m, k = m + 1 ∧ n ≤ m := ⟨k - 1, by omega, by omega⟩
def gs (up : Int) (s : List Int) : Prop := (1 ≤ up ∧ up ≤ 1000) ∧ (1 ≤ (s.length : Int) ∧ (s.length : Int) ≤ 12) ∧ ∀ x ∈ s, 0 ≤ x ∧ x ≤ 1000
instance (up : Int) (s : List Int) : Decidable (gs up s) := by unfold gs; infer_instance
/-- The slip of the night behind day j + 1. -/
def sl (s : List Int) (j : Nat) : Int := s.getD (j % s.length) 0
theorem sl_bd (up : Int) (s : List Int) (g : gs up s) (j : Nat) : 0 ≤ sl s j ∧ sl s j ≤ 1000 := by
  obtain ⟨_, h, ha⟩ := g
  exact ha _ (getD_mem s _ (Nat.mod_lt _ (by omega)))
theorem tmod_nat (j n : Nat) : Int.tmod (j : Int) (n : Int) = ((j % n : Nat) : Int) := by
  rw [Int.tmod_eq_emod_of_nonneg (by omega), Int.natCast_emod]
/-- How far it comes at most: rounds left, day, height in the morning, most so far. -/
def gsL (up : Int) (s : List Int) : Nat → Nat → Int → Int → Int
  | 0, _, _, most => most
  | n + 1, j, m, most => gsL up s n (j + 1) (max 0 (m + up - sl s j)) (max most (m + up))
def gwsV (up : Int) (s : List Int) (days : Int) : Int × Bool := if gs up s ∧ gw days then (gsL up s days.toNat 0 0 0, true) else (0, false)
theorem e_eqIntS_l0 (l : List Int) (hl : (l.length : Int) ≤ 9000000000000000000) : ∀ (n i k : Nat), i + n = l.length → n < k → laws_eqIntS.l0 k l l (i : Int) = some true := by
  intro n
  induction n with
  | zero =>
    intro i k hi hk
    obtain ⟨k, rfl, hk⟩ := round1 hk
    simp only [laws_eqIntS.l0]; rw [if_neg (by omega)]
  | succ n ih =>
    intro i k hi hk
    obtain ⟨k, rfl, hk⟩ := round1 hk
    simp only [laws_eqIntS.l0]
    rw [if_pos (by omega), if_pos (by omega), if_pos (by omega), if_true, w64 _ (by omega) (by omega), show ((i : Int) + 1) = ((i + 1 : Nat) : Int) by omega]
    exact ih (i + 1) k (by omega) (by omega)
theorem e_eqIntS (k : Nat) (l : List Int) (hl : (l.length : Int) ≤ 9000000000000000000) (hk : l.length < k) : laws_eqIntS.f k l l = some true := by
  unfold laws_eqIntS.f; rw [if_pos rfl]; exact e_eqIntS_l0 l hl l.length 0 k (by omega) hk
def markL (l : List Int) (c : Int) : Nat → Nat → List Int
  | 0, _ => l
  | n + 1, i => markL (l.set i c) (c + 1) n (i + 1)
theorem markL_length : ∀ (n i : Nat) (l : List Int) (c : Int), (markL l c n i).length = l.length := by
  intro n; induction n with
  | zero => intro i l c; rfl
  | succ n ih => intro i l c; simp [markL, ih]
theorem markL_below : ∀ (n i : Nat) (l : List Int) (c : Int) (j : Nat), j < i → (markL l c n i).getD j 0 = l.getD j 0 := by
  intro n; induction n with
  | zero => intro i l c j h; rfl
  | succ n ih =>
    intro i l c j h
    simp only [markL]; rw [ih (i + 1) _ _ j (by omega)]
    simp only [List.getD_eq_getElem?_getD]; rw [List.getElem?_set_ne (by omega)]
theorem markL_at : ∀ (n i : Nat) (l : List Int) (c : Int) (j : Nat), i + n = l.length → i ≤ j → j < l.length → (markL l c n i).getD j 0 = c + (j - i : Nat) := by
  intro n; induction n with
  | zero => intro i l c j h h1 h2; omega
  | succ n ih =>
    intro i l c j h h1 h2
    simp only [markL]
    rcases Nat.lt_or_ge i j with h3 | h3
    · rw [ih (i + 1) _ _ j (by simp; omega) (by omega) (by simpa using h2)]; omega
    · have e : j = i := by omega
      subst e
      rw [markL_below n (j + 1) _ _ j (by omega)]
      simp [List.getD_eq_getElem?_getD, h2]
theorem e_markIntS_l0 : ∀ (n i k : Nat) (l : List Int) (c : Int), (l.length : Int) ≤ 4000000000000000000 → i + n = l.length → 0 ≤ c → c ≤ 1 + i → n < k → laws_markIntS.l0 k l c (i : Int) = some (c + n, markL l c n i) := by
  intro n
  induction n with
  | zero =>
    intro i k l c hl hi h0 h1 hk
    obtain ⟨k, rfl, hk⟩ := round1 hk
    simp only [laws_markIntS.l0, markL]; rw [if_neg (by omega)]; simp
  | succ n ih =>
    intro i k l c hl hi h0 h1 hk
    obtain ⟨k, rfl, hk⟩ := round1 hk
    simp only [laws_markIntS.l0, markL]
    rw [if_pos (by omega), if_pos (by omega), w64 (c + 1) (by omega) (by omega), w64 _ (by omega) (by omega), show ((i : Int)).toNat = i by omega, show ((i : Int) + 1) = ((i + 1 : Nat) : Int) by omega]
    rw [ih (i + 1) k (l.set i c) (c + 1) (by simpa using hl) (by simp; omega) (by omega) (by omega) (by omega)]
    congr 2; omega
theorem e_markIntS (k : Nat) (l : List Int) (hl : (l.length : Int) ≤ 4000000000000000000) (hk : l.length < k) : laws_markIntS.f k l 1 = some (1 + (l.length : Int), markL l 1 l.length 0) := by
  unfold laws_markIntS.f; exact e_markIntS_l0 l.length 0 k l 1 hl (by omega) (by omega) (by omega) hk
theorem e_heldIntS_l0 (l : List Int) (hl : (l.length : Int) ≤ 4000000000000000000) (h : ∀ j, j < l.length → l.getD j 0 = 1 + j) : ∀ (n i k : Nat) (c : Int), i + n = l.length → c = 1 + i → n < k → laws_heldIntS.l0 k l c (i : Int) = some (c + n) := by
  intro n
  induction n with
  | zero =>
    intro i k c hi hc hk
    obtain ⟨k, rfl, hk⟩ := round1 hk
    simp only [laws_heldIntS.l0]; rw [if_neg (by omega)]; simp
  | succ n ih =>
    intro i k c hi hc hk
    obtain ⟨k, rfl, hk⟩ := round1 hk
    simp only [laws_heldIntS.l0]
    have := h i (by omega)
    rw [if_pos (by omega), if_pos (by omega), rdn, this, if_pos (by omega), w64 (c + 1) (by omega) (by omega), w64 _ (by omega) (by omega), show ((i : Int) + 1) = ((i + 1 : Nat) : Int) by omega]
    rw [ih (i + 1) k (c + 1) (by omega) (by omega) (by omega)]
    congr 1; omega
theorem e_heldIntS (k : Nat) (l : List Int) (hl : (l.length : Int) ≤ 4000000000000000000) (hk : l.length < k) : laws_heldIntS.f k (markL l 1 l.length 0) 1 = some (1 + (l.length : Int)) := by
  unfold laws_heldIntS.f
  have e := markL_length l.length 0 l 1
  have := e_heldIntS_l0 (markL l 1 l.length 0) (by rw [e]; exact hl) (fun j hj => by rw [e] at hj; have := markL_at l.length 0 l 1 j (by omega) (by omega) hj; rw [this]; omega) (markL l 1 l.length 0).length 0 k 1 (by omega) (by omega) (by omega)
  rw [e] at this; exact this
/-- How high it is in the morning before day j + 1, if there is no top. -/
def mor (up : Int) (s : List Int) : Nat → Int
  | 0 => 0
  | j + 1 => max 0 (mor up s j + up - sl s j)
theorem mor_bd (up : Int) (s : List Int) (g : gs up s) : ∀ j : Nat, 0 ≤ mor up s j ∧ mor up s j ≤ j * 1000 := by
  intro j
  induction j with
  | zero => simp [mor]
  | succ j ih =>
    have hs := sl_bd up s g j
    have g1 := g.1
    simp only [mor]
    omega
theorem sl_per (s : List Int) (j : Nat) : sl s (j + s.length) = sl s j := by unfold sl; rw [Nat.add_mod_right]
theorem mor_step (up : Int) (s : List Int) (a : Nat) (h : mor up s (a + s.length) ≤ mor up s a) : ∀ t, mor up s (a + t + s.length) ≤ mor up s (a + t) := by
  intro t
  induction t with
  | zero => exact h
  | succ t ih =>
    have e : a + (t + 1) + s.length = (a + t + s.length) + 1 := by omega
    rw [e, show a + (t + 1) = (a + t) + 1 by omega]
    simp only [mor]
    rw [sl_per s (a + t)]
    omega
theorem mor_never (up w : Int) (s : List Int) (hs : 1 ≤ s.length) (a : Nat) (h : mor up s (a + s.length) ≤ mor up s a) (hb : ∀ i, i < a + s.length → mor up s i + up < w) : ∀ j, mor up s j + up < w := by
  intro j
  induction j using Nat.strongRecOn with
  | ind j ih =>
    rcases Nat.lt_or_ge j (a + s.length) with h1 | h1
    · exact hb j h1
    · have := mor_step up s a h (j - s.length - a)
      rw [show a + (j - s.length - a) + s.length = j by omega, show a + (j - s.length - a) = j - s.length by omega] at this
      have := ih (j - s.length) (by omega)
      omega
/-- What the day of the top is: the first one, or that there is none. -/
def DS (up : Int) (s : List Int) (w : Int) (r : Int × Bool) : Prop :=
  (∃ j : Nat, r = ((j : Int) + 1, true) ∧ mor up s j + up ≥ w ∧ ∀ i, i < j → mor up s i + up < w) ∨ (r = (0, false) ∧ ∀ j, mor up s j + up < w)
theorem DS_one (up : Int) (s : List Int) (w : Int) (r r' : Int × Bool) (h : DS up s w r) (h' : DS up s w r') : r = r' := by
  rcases h with ⟨j, e, a, b⟩ | ⟨e, a⟩ <;> rcases h' with ⟨j', e', a', b'⟩ | ⟨e', a'⟩
  · rcases Nat.lt_trichotomy j j' with h | h | h
    · have := b' j h; omega
    · rw [e, e', h]
    · have := b j' h; omega
  · have := a' j; omega
  · have := a j'; omega
  · rw [e, e']
def gtr (lap p s : Int) : Prop := (2 ≤ lap ∧ lap ≤ 1000) ∧ (0 ≤ p ∧ p ≤ lap - 1) ∧ 1 ≤ s ∧ s ≤ 100
instance (lap p s : Int) : Decidable (gtr lap p s) := by unfold gtr; infer_instance
def grt (t : Int) : Prop := 0 ≤ t ∧ t ≤ 1000000
instance (t : Int) : Decidable (grt t) := by unfold grt; infer_instance
def glp (t : Int) : Prop := 1 ≤ t ∧ t ≤ 100
instance (t : Int) : Decidable (glp t) := by unfold glp; infer_instance
theorem evs {α : Type} {g f : Nat → Option α} {r : α} (K : Nat) (h : ∀ k, K ≤ k → g (k + 1) = f k) (k : Ev f r) : Ev g r := by
  obtain ⟨K', k⟩ := k
  refine ⟨max K K' + 1, fun n hn => ?_⟩
  obtain ⟨m, rfl⟩ : ∃ m, n = m + 1 := ⟨n - 1, by omega⟩
  rw [h m (by omega)]
  exact k m (by omega)
theorem low_neg (a b : Int) (hb : b ≠ 0) : lowN (-a) (-b) = lowN a b ∧ lowD (-a) (-b) = lowD a b := by
  have e : Int.gcd (-a) (-b) = Int.gcd a b := by simp [Int.gcd]
  unfold lowN lowD
  rw [e]
  by_cases h : b < 0
  · rw [if_pos h, if_pos h, if_neg (by omega), if_neg (by omega)]; exact ⟨rfl, rfl⟩
  · rw [if_neg h, if_neg h, if_pos (by omega), if_pos (by omega), Int.neg_neg, Int.neg_neg]; exact ⟨rfl, rfl⟩
theorem meet_sym (p s p' s' : Int) : meetV p s p' s' = meetV p' s' p s := by
  unfold meetV
  by_cases h : p = p'
  · rw [if_pos h, if_pos h.symm]
  · by_cases h2 : s = s'
    · rw [if_neg h, if_neg (fun z : p' = p => h z.symm), if_pos h2, if_pos h2.symm]
    · have q := low_neg (p' - p) (s - s') (by omega)
      rw [show -(p' - p) = p - p' by omega, show -(s - s') = s' - s by omega] at q
      rw [if_neg h, if_neg (fun z : p' = p => h z.symm), if_neg h2, if_neg (fun z : s' = s => h2 z.symm), q.1, q.2]
theorem low_cross (a b : Int) (hb : b ≠ 0) : lowN a b * b = lowD a b * a := by
  have hg := gcd_pos a b hb
  obtain ⟨u, hu⟩ : (Int.gcd a b : Int) ∣ a := Int.gcd_dvd_left ..
  obtain ⟨v, hv⟩ : (Int.gcd a b : Int) ∣ b := Int.gcd_dvd_right ..
  unfold lowN lowD
  generalize (Int.gcd a b : Int) = g at *
  subst hu hv
  by_cases h : g * v < 0
  · rw [if_pos h, if_pos h, show -(g * u) = g * (-u) by rw [Int.mul_neg], show -(g * v) = g * (-v) by rw [Int.mul_neg], Int.mul_ediv_cancel_left _ (by omega), Int.mul_ediv_cancel_left _ (by omega)]
    rw [Int.neg_mul, Int.neg_mul, Int.mul_left_comm u g v, Int.mul_left_comm v g u, Int.mul_comm u v]
  · rw [if_neg h, if_neg h, Int.mul_ediv_cancel_left _ (by omega), Int.mul_ediv_cancel_left _ (by omega)]
    rw [Int.mul_left_comm u g v, Int.mul_left_comm v g u, Int.mul_comm u v]
/-- Where they meet: the time times the difference of speeds is the gap. -/
theorem meet_cross (p s p' s' : Int) (h : (meetV p s p' s').2.2 = true) (hp : p ≠ p') : (meetV p s p' s').1 * (s - s') = (meetV p s p' s').2.1 * (p' - p) ∧ s ≠ s' := by
  unfold meetV at h ⊢
  rw [if_neg hp] at h ⊢
  by_cases h2 : s = s'
  · rw [if_pos h2] at h; simp at h
  · rw [if_neg h2] at h ⊢
    by_cases h3 : lowN (p' - p) (s - s') < 0
    · rw [if_pos h3] at h; simp at h
    · rw [if_neg h3]
      exact ⟨low_cross _ _ (by omega), h2⟩
/-- One that is faster and behind is met. -/
theorem meet_ok (p s p' s' : Int) (hp : p < p') (hs : s > s') : (meetV p s p' s').2.2 = true := by
  unfold meetV
  have q := lowN_neg (p' - p) (s - s') (by omega)
  rw [if_neg (by omega), if_neg (by omega), if_neg]
  intro z
  have := q.mp z
  rw [if_neg (by omega)] at this
  omega
theorem mul_pos' {a b : Int} (ha : 0 < a) (hb : 0 < b) : 0 < a * b := Int.mul_pos ha hb
/-- a/b ≤ x/y and x/y ≤ u/v. -/
theorem frac_trans (a b x y u v : Int) (hb : 0 < b) (hy : 0 < y) (hv : 0 < v) (h1 : a * y ≤ x * b) (h2 : x * v ≤ u * y) : a * v ≤ u * b := by
  have e1 : a * y * v ≤ x * b * v := Int.mul_le_mul_of_nonneg_right h1 (by omega)
  have e2 : x * v * b ≤ u * y * b := Int.mul_le_mul_of_nonneg_right h2 (by omega)
  have e3 : (a * v) * y ≤ (u * b) * y := by
    rw [show (a * v) * y = a * y * v by rw [Int.mul_right_comm], show (u * b) * y = u * y * b by rw [Int.mul_right_comm]]
    rw [show x * b * v = x * v * b by rw [Int.mul_right_comm]] at e1
    omega
  exact Int.le_of_mul_le_mul_right e3 hy
theorem e_eqIntSS_l0 (rs : List (List Int)) (hr : ∀ r ∈ rs, r.length = 2) (hl : rs.length ≤ 100000) : ∀ (n i k : Nat), i + n = rs.length → n + 100 < k → laws_eqIntSS.l0 k rs rs (i : Int) = some true := by
  intro n
  induction n with
  | zero =>
    intro i k hi hk
    obtain ⟨k, rfl⟩ : ∃ m, k = m + 1 := ⟨k - 1, by omega⟩
    simp only [laws_eqIntSS.l0]
    rw [if_neg (by omega)]
  | succ n ih =>
    intro i k hi hk
    obtain ⟨k, rfl⟩ : ∃ m, k = m + 1 := ⟨k - 1, by omega⟩
    simp only [laws_eqIntSS.l0]
    have h2r : (rd_L1 rs (i : Int)).length = 2 := by
      unfold rd_L1
      have hi' : (i : Int).toNat < rs.length := by omega
      rw [List.getD_eq_getElem?_getD, List.getElem?_eq_getElem hi', Option.getD_some]
      exact hr _ (List.getElem_mem hi')
    rw [if_pos (by omega), if_pos (by omega), if_pos (by omega), e_eqIntS k _ (by omega) (by omega)]
    simp only [Option.bind_some, if_true]
    rw [w64 _ (by omega) (by omega), show ((i : Int) + 1) = ((i + 1 : Nat) : Int) by omega]
    exact ih (i + 1) k (by omega) (by omega)
theorem e_eqIntSS (k : Nat) (rs : List (List Int)) (hr : ∀ r ∈ rs, r.length = 2) (hl : rs.length ≤ 100000) (hk : 200000 < k) : laws_eqIntSS.f k rs rs = some true := by
  unfold laws_eqIntSS.f; rw [if_pos rfl]; exact e_eqIntSS_l0 rs hr hl rs.length 0 k (by omega) (by omega)
theorem e_mark4 (k : Nat) (r : List Int) (c : Int) (hr : r.length = 2) (h0 : 0 ≤ c) (h1 : c ≤ 100000) (hk : 100 < k) : laws_markIntS.f k r c = some (c + 2, [c, c + 1]) := by
  obtain ⟨k, rfl⟩ : ∃ m, k = m + 5 := ⟨k - 5, by omega⟩
  match r, hr with
  | [a, b], _ =>
    have w1 := w64 (c + 1) (by omega) (by omega)
    have w2 := w64 (c + 1 + 1) (by omega) (by omega)
    have w3 := w64 (c + 1 + 1 + 1) (by omega) (by omega)
    have w4 := w64 (c + 1 + 1 + 1 + 1) (by omega) (by omega)
    have i1 : wrap64 (1 : Int) = 1 := w64 _ (by omega) (by omega)
    have i2 : wrap64 (2 : Int) = 2 := w64 _ (by omega) (by omega)
    have i3 : wrap64 (3 : Int) = 3 := w64 _ (by omega) (by omega)
    have i4 : wrap64 (4 : Int) = 4 := w64 _ (by omega) (by omega)
    simp [laws_markIntS.f, laws_markIntS.l0, w1, w2, w3, w4, i1, i2, i3, i4]
    omega
theorem e_held4 (k : Nat) (c : Int) (h0 : 0 ≤ c) (h1 : c ≤ 1000000) (hk : 100 < k) : laws_heldIntS.f k [c, c + 1] c = some (c + 2) := by
  obtain ⟨k, rfl⟩ : ∃ m, k = m + 5 := ⟨k - 5, by omega⟩
  have w1 := w64 (c + 1) (by omega) (by omega)
  have w2 := w64 (c + 1 + 1) (by omega) (by omega)
  have w3 := w64 (c + 1 + 1 + 1) (by omega) (by omega)
  have w4 := w64 (c + 1 + 1 + 1 + 1) (by omega) (by omega)
  have i1 : wrap64 (1 : Int) = 1 := w64 _ (by omega) (by omega)
  have i2 : wrap64 (2 : Int) = 2 := w64 _ (by omega) (by omega)
  have i3 : wrap64 (3 : Int) = 3 := w64 _ (by omega) (by omega)
  have i4 : wrap64 (4 : Int) = 4 := w64 _ (by omega) (by omega)
  have e2 : c + 1 + 1 = c + 2 := by omega
  have e3 : c + 1 + 1 + 1 = c + 3 := by omega
  have e4 : c + 1 + 1 + 1 + 1 = c + 4 := by omega
  rw [e2] at w2 w3 w4
  rw [show c + 2 + 1 = c + 3 by omega] at w3 w4
  rw [show c + 3 + 1 = c + 4 by omega] at w4
  simp [laws_heldIntS.f, laws_heldIntS.l0, rd, w1, i1, i2, i3, i4, e2, w2, show c + 2 + 1 = c + 3 by omega, w3, show c + 3 + 1 = c + 4 by omega, w4]
theorem mkTo_at (rs : List (List Int)) : ∀ (i j : Nat), i ≤ rs.length → j < i → (mkTo rs i).getD j [] = mrow j := by
  intro i
  induction i with
  | zero => intro j _ h; omega
  | succ i ih =>
    intro j hi hj
    rw [mkTo]
    by_cases z : j = i
    · subst z; simp [List.getD_eq_getElem?_getD, mkTo_len, show j < rs.length by omega]
    · have := ih j (by omega) (by omega)
      simp only [List.getD_eq_getElem?_getD] at this ⊢
      rw [List.getElem?_set_ne (by omega)]; exact this
theorem e_heldSS_l0 (rs : List (List Int)) (hl : rs.length ≤ 1000) : ∀ (n i k : Nat), i + n = rs.length → n + 200 < k → laws_heldIntSS.l0 k (mkTo rs rs.length) (1 + 2 * (i : Int)) (i : Int) = some (1 + 2 * (rs.length : Int)) := by
  intro n
  induction n with
  | zero =>
    intro i k hi hk
    obtain ⟨k, rfl⟩ : ∃ m, k = m + 1 := ⟨k - 1, by omega⟩
    simp only [laws_heldIntSS.l0]
    rw [if_neg (by rw [mkTo_len]; omega)]
    congr 1; omega
  | succ n ih =>
    intro i k hi hk
    obtain ⟨k, rfl⟩ : ∃ m, k = m + 1 := ⟨k - 1, by omega⟩
    simp only [laws_heldIntSS.l0]
    have e : rd_L1 (mkTo rs rs.length) (i : Int) = [1 + 2 * (i : Int), 1 + 2 * (i : Int) + 1] := by
      unfold rd_L1
      rw [show (i : Int).toNat = i by omega, mkTo_at rs rs.length i (by omega) (by omega)]
      unfold mrow
      congr 1; omega; congr 1; omega
    rw [if_pos (by rw [mkTo_len]; omega), if_pos (by omega), e, e_held4 k _ (by omega) (by omega) (by omega)]
    simp only [Option.bind_some]
    rw [if_neg (by omega), w64 _ (by omega) (by omega), show ((i : Int) + 1) = ((i + 1 : Nat) : Int) by omega, show 1 + 2 * (i : Int) + 2 = 1 + 2 * ((i + 1 : Nat) : Int) by omega]
    exact ih (i + 1) k (by omega) (by omega)
theorem e_heldSS (k : Nat) (rs : List (List Int)) (hl : rs.length ≤ 1000) (hk : 2000 < k) : laws_heldIntSS.f k (mkTo rs rs.length) 1 = some (1 + 2 * (rs.length : Int)) := by
  unfold laws_heldIntSS.f
  have := e_heldSS_l0 rs hl rs.length 0 k (by omega) (by omega)
  simpa using this

def putL (n : Int) : List Int → List Int
  | [] => [n]
  | x :: t => if x < n then x :: putL n t else if x = n then x :: t else n :: x :: t
theorem putL_mem (n : Int) : ∀ (l : List Int) (y : Int), y ∈ putL n l ↔ y = n ∨ y ∈ l := by
  intro l
  induction l with
  | nil => intro y; simp [putL]
  | cons x t ih =>
    intro y
    simp only [putL]
    split
    · simp only [List.mem_cons, ih]; constructor <;> (intro h; rcases h with h | h | h <;> simp [h])
    · split
      · rename_i h; subst h; simp
      · simp
theorem putL_sorted (n : Int) : ∀ (l : List Int), l.Pairwise (· < ·) → (putL n l).Pairwise (· < ·) := by
  intro l
  induction l with
  | nil => intro _; simp [putL]
  | cons x t ih =>
    intro h
    obtain ⟨h1, h2⟩ := List.pairwise_cons.1 h
    simp only [putL]
    split
    · rename_i c
      rw [List.pairwise_cons]
      refine ⟨fun y hy => ?_, ih h2⟩
      rcases (putL_mem n t y).1 hy with rfl | hy
      · exact c
      · exact h1 y hy
    · split
      · exact h
      · rw [List.pairwise_cons]
        refine ⟨fun y hy => ?_, h⟩
        rcases List.mem_cons.1 hy with rfl | hy
        · omega
        · have := h1 y hy; omega
theorem putL_len (n : Int) : ∀ (l : List Int), (putL n l).length ≤ l.length + 1 := by
  intro l
  induction l with
  | nil => simp [putL]
  | cons x t ih =>
    simp only [putL]
    split
    · simp; omega
    · split <;> simp
theorem sorted_unique : ∀ (a b : List Int), a.Pairwise (· < ·) → b.Pairwise (· < ·) → (∀ y, y ∈ a ↔ y ∈ b) → a = b := by
  intro a
  induction a with
  | nil =>
    intro b _ _ h
    match b with
    | [] => rfl
    | y :: t => exact absurd ((h y).2 (by simp)) (by simp)
  | cons x t ih =>
    intro b ha hb h
    match b, hb, h with
    | [], _, h => exact absurd ((h x).1 (by simp)) (by simp)
    | y :: s, hb, h =>
      obtain ⟨a1, a2⟩ := List.pairwise_cons.1 ha
      obtain ⟨b1, b2⟩ := List.pairwise_cons.1 hb
      have e : x = y := by
        rcases List.mem_cons.1 ((h x).1 (by simp)) with e | e
        · exact e
        · rcases List.mem_cons.1 ((h y).2 (by simp)) with f | f
          · exact f.symm
          · have := b1 x e; have := a1 y f; omega
      subst e
      rw [ih s a2 b2 (fun z => ?_)]
      have hz := h z
      simp only [List.mem_cons] at hz
      constructor
      · intro q; have := a1 z q
        rcases hz.1 (.inr q) with r | r
        · omega
        · exact r
      · intro q; have := b1 z q
        rcases hz.2 (.inr q) with r | r
        · omega
        · exact r
theorem compact_up (d : Array Int) (hs : ∀ i j, i < j → j < d.size → d[i]! ≤ d[j]!) : ∀ m, m ≤ d.size → (Lib.compactUpTo d m).Pairwise (· < ·) ∧ (∀ x ∈ Lib.compactUpTo d m, ∃ j, j < m ∧ x = d[j]!) ∧ ∀ j, j < m → d[j]! ∈ Lib.compactUpTo d m := by
  intro m
  induction m with
  | zero => intro _; simp [Lib.compactUpTo]
  | succ m ih =>
    intro hm
    obtain ⟨a, b, c⟩ := ih (by omega)
    rw [Lib.compactUpTo_succ]
    by_cases k : Lib.keeps d m = true
    · rw [if_pos k]
      refine ⟨?_, fun x hx => ?_, fun j hj => ?_⟩
      · rw [List.pairwise_append]
        refine ⟨a, by simp, fun x hx y hy => ?_⟩
        simp at hy
        subst hy
        obtain ⟨j, hj, rfl⟩ := b x hx
        simp only [Lib.keeps, decide_eq_true_eq] at k
        rcases k with k | k
        · omega
        · have h1 := hs (m - 1) m (by omega) (by omega)
          by_cases z : j = m - 1
          · subst z; omega
          · have h2 := hs j (m - 1) (by omega) (by omega); omega
      · rcases List.mem_append.1 hx with hx | hx
        · obtain ⟨j, hj, e⟩ := b x hx; exact ⟨j, by omega, e⟩
        · simp at hx; exact ⟨m, by omega, hx⟩
      · by_cases z : j = m
        · subst z; simp
        · exact List.mem_append.2 (.inl (c j (by omega)))
    · rw [if_neg k, List.append_nil]
      refine ⟨a, fun x hx => ?_, fun j hj => ?_⟩
      · obtain ⟨j, hj, e⟩ := b x hx; exact ⟨j, by omega, e⟩
      · by_cases z : j = m
        · subst z
          simp only [Lib.keeps, decide_eq_true_eq, not_or, ne_eq, Classical.not_not] at k
          rw [k.2]; exact c (j - 1) (by omega)
        · exact c j (by omega)
theorem compact_sorted (zs : List Int) : (Lib.compact (zs.mergeSort fun x y => decide (x ≤ y))).Pairwise (· < ·) ∧ ∀ y, y ∈ Lib.compact (zs.mergeSort fun x y => decide (x ≤ y)) ↔ y ∈ zs := by
  have hp := List.mergeSort_perm zs (fun x y => decide (x ≤ y))
  have hs := List.pairwise_mergeSort (le := fun x y : Int => decide (x ≤ y)) (by intro a b c; simp; omega) (by intro a b; simp; omega) zs
  generalize zs.mergeSort (fun x y => decide (x ≤ y)) = ts at hp hs
  have key := compact_up ts.toArray (fun i j hij hj => by
    have hj' : j < ts.length := by simpa using hj
    have := List.pairwise_iff_getElem.1 hs i j (by omega) hj' hij
    simp only [decide_eq_true_eq] at this
    simpa [getElem!_pos, hj', show i < ts.length by omega] using this) ts.length (by simp)
  unfold Lib.compact
  refine ⟨key.1, fun y => ?_⟩
  rw [← hp.mem_iff]
  constructor
  · intro hy
    obtain ⟨j, hj, rfl⟩ := key.2.1 y hy
    simp [getElem!_pos, hj]
  · intro hy
    obtain ⟨j, hj, rfl⟩ := List.mem_iff_getElem.1 hy
    have := key.2.2 j hj
    simpa [getElem!_pos, hj] using this
theorem put_compact (zs : List Int) : zs.foldl (fun o x => putL x o) [] = Lib.compact (zs.mergeSort fun x y => decide (x ≤ y)) := by
  have go : ∀ (zs o : List Int), o.Pairwise (· < ·) → (zs.foldl (fun o x => putL x o) o).Pairwise (· < ·) ∧ ∀ y, y ∈ zs.foldl (fun o x => putL x o) o ↔ y ∈ zs ∨ y ∈ o := by
    intro zs
    induction zs with
    | nil => intro o h; exact ⟨h, by simp⟩
    | cons x t ih =>
      intro o h
      simp only [List.foldl_cons]
      obtain ⟨a, b⟩ := ih (putL x o) (putL_sorted x o h)
      refine ⟨a, fun y => ?_⟩
      rw [b, putL_mem, List.mem_cons]
      constructor
      · rintro (h | h | h) <;> simp [h]
      · rintro ((h | h) | h) <;> simp [h]
  obtain ⟨a, b⟩ := go zs [] List.Pairwise.nil
  obtain ⟨c, d⟩ := compact_sorted zs
  exact sorted_unique _ _ a c (fun y => by rw [b, d]; exact or_iff_left (List.not_mem_nil))
theorem e_l1Put_l0 (n : Int) (l : List Int) (hl : l.length ≤ 100000) : ∀ (m i k : Nat), i + m = l.length → m < k → spec_l1Put.l0 k l n (i : Int) = some (l.take i ++ putL n (l.drop i)) := by
  intro m
  induction m with
  | zero =>
    intro i k hi hk
    obtain ⟨k, rfl⟩ : ∃ q, k = q + 1 := ⟨k - 1, by omega⟩
    have e : i = l.length := by omega
    subst e
    simp only [spec_l1Put.l0]
    rw [if_neg (by omega)]
    simp [putL]
    omega
  | succ m ih =>
    intro i k hi hk
    obtain ⟨k, rfl⟩ : ∃ q, k = q + 1 := ⟨k - 1, by omega⟩
    have hil : i < l.length := by omega
    have hrd : rd l (i : Int) = l[i] := by simp [rd, List.getD_eq_getElem?_getD, hil]
    have hd : l.drop i = l[i] :: l.drop (i + 1) := List.drop_eq_getElem_cons hil
    simp only [spec_l1Put.l0]
    rw [if_pos (by omega), if_pos (by omega), hrd, hd]
    simp only [putL]
    by_cases c : l[i] < n
    · rw [if_pos c, if_pos c, w64 _ (by omega) (by omega), show ((i : Int) + 1) = ((i + 1 : Nat) : Int) by omega, ih (i + 1) k (by omega) (by omega)]
      congr 1
      rw [List.take_succ_eq_append_getElem hil, List.append_assoc]
      rfl
    · rw [if_neg c, if_neg c]
      by_cases e : l[i] = n
      · rw [if_pos e, if_pos e, ← hd, List.take_append_drop]
      · rw [if_neg e, if_neg e]
        have t : ((i : Nat) : Int).toNat = i := by omega
        have t1 : (l.take i).length ≤ 100000 := by simp; omega
        have t2 : (l.drop i).length ≤ 100000 := by simp; omega
        simp only [Option.bind_some, t, List.nil_append, List.length_append, List.length_nil, List.length_cons, Nat.zero_add]
        rw [if_pos (by omega), if_pos (by omega), if_pos (by omega), if_pos (by omega), hd]
        simp
theorem e_l1Put (k : Nat) (l : List Int) (n : Int) (hl : l.length ≤ 100000) (hk : l.length < k) : spec_l1Put.f k l n = some (putL n l) := by
  unfold spec_l1Put.f
  have := e_l1Put_l0 n l hl l.length 0 k (by omega) hk
  simpa using this
def rpN (a p s gap sp : Int) (x : Nat) : Int := (p * sp + s * (gap + (x : Int) * a)) % (a * sp)
def rpL (sp : Int) (n : Int) : Int × Int := (lowN n sp, lowD n sp)
def rpC (a p s gap sp : Int) : List Int := (numsT (rpN a p s gap sp) sp.toNat).foldl (fun o x => putL x o) []
theorem rp_expr (a p s gap sp : Int) (ga : gr a) (g : gk p s) (h1 : 0 ≤ gap ∧ gap < a) (h2 : 1 ≤ sp ∧ sp ≤ 200) (x : Int) (x0 : 0 ≤ x) (x1 : x < sp) :
    wrap64 (wrap64 (p * sp) + wrap64 (s * wrap64 (gap + wrap64 (x * a)))) = p * sp + s * (gap + x * a) ∧ wrap64 (a * sp) = a * sp ∧ (-40000000 ≤ p * sp + s * (gap + x * a) ∧ p * sp + s * (gap + x * a) ≤ 40000000) ∧ 0 < a * sp ∧ a * sp ≤ 200000 := by
  unfold gr at ga; unfold gk at g
  have m1 := abs_mul p sp 1000 200 (by omega) (by omega)
  have m2 := abs_mul x a 200 1000 (by omega) (by omega)
  have m3 : 0 ≤ x * a := Int.mul_nonneg x0 (by omega)
  have m4 := abs_mul s (gap + x * a) 100 201000 (by omega) (by omega)
  have m5 := abs_mul a sp 1000 200 (by omega) (by omega)
  have m6 : 0 < a * sp := Int.mul_pos (by omega) (by omega)
  rw [w64 (p * sp) (by omega) (by omega), w64 (x * a) (by omega) (by omega), w64 (gap + x * a) (by omega) (by omega), w64 (s * (gap + x * a)) (by omega) (by omega), w64 _ (by omega) (by omega), w64 (a * sp) (by omega) (by omega)]
  exact ⟨rfl, rfl, by omega, m6, by omega⟩
theorem foldl_put_len : ∀ (zs o : List Int), (zs.foldl (fun o x => putL x o) o).length ≤ zs.length + o.length := by
  intro zs
  induction zs with
  | nil => intro o; simp
  | cons x t ih =>
    intro o
    simp only [List.foldl_cons, List.length_cons]
    have a := ih (putL x o)
    have b := putL_len x o
    omega
theorem rp_l1 (sp : Int) (h2 : 1 ≤ sp ∧ sp ≤ 200) (cs : List Int) (hc : ∀ n ∈ cs, -200000 ≤ n ∧ n ≤ 200000) (hl : cs.length ≤ 1000) : ∀ (m i k : Nat), i + m = cs.length → m + 1000000 < k → spec_RingPlaces.l1 k sp (rpRows (rpL sp) (cs.take i)) cs (cs.length : Int) (i : Int) = some (rpRows (rpL sp) cs, true) := by
  intro m
  induction m with
  | zero =>
    intro i k hi hk
    obtain ⟨k, rfl⟩ : ∃ q, k = q + 1 := ⟨k - 1, by omega⟩
    simp only [spec_RingPlaces.l1]
    rw [if_neg (by omega), List.take_of_length_le (by omega)]
  | succ m ih =>
    intro i k hi hk
    obtain ⟨k, rfl⟩ : ∃ q, k = q + 1 := ⟨k - 1, by omega⟩
    have hil : i < cs.length := by omega
    have hrd : rd cs (i : Int) = cs[i] := by simp [rd, List.getD_eq_getElem?_getD, hil]
    have hb := hc _ (List.getElem_mem hil)
    simp only [spec_RingPlaces.l1]
    rw [if_pos (by omega), if_pos (by omega), if_pos (by omega), hrd, e_meLow k _ _ 200000 (by omega) (by omega) (by omega) (by omega) (by omega)]
    simp only [Option.bind_some]
    rw [if_pos (by simp [rpRows]; omega), w64 _ (by omega) (by omega), show ((i : Int) + 1) = ((i + 1 : Nat) : Int) by omega]
    have e : rpRows (rpL sp) (cs.take i) ++ [[lowN cs[i] sp, lowD cs[i] sp]] = rpRows (rpL sp) (cs.take (i + 1)) := by
      unfold rpRows; rw [List.take_succ_eq_append_getElem hil, List.map_append]; rfl
    rw [e]
    exact ih (i + 1) k (by omega) (by omega)
theorem rp_l0 (a p s gap sp : Int) (ga : gr a) (g : gk p s) (h1 : 0 ≤ gap ∧ gap < a) (h2 : 1 ≤ sp ∧ sp ≤ 200) (r : Option (List (List Int) × Bool)) : ∀ (m i k : Nat) (o : List Int), i + m = sp.toNat → o.length + m ≤ 1000 → m + 2000000 < k →
    (∀ k, 1900000 < k → spec_RingPlaces.l1 k sp [] (((List.range' i m).map (rpN a p s gap sp)).foldl (fun o x => putL x o) o) ((((List.range' i m).map (rpN a p s gap sp)).foldl (fun o x => putL x o) o).length : Int) 0 = r) →
    spec_RingPlaces.l0 k a gap sp o (i : Int) p s = r := by
  intro m
  induction m with
  | zero =>
    intro i k o hi ho hk hr
    obtain ⟨k, rfl⟩ : ∃ q, k = q + 1 := ⟨k - 1, by omega⟩
    simp only [spec_RingPlaces.l0]
    rw [if_neg (by omega)]
    have := hr k (by omega)
    simpa using this
  | succ m ih =>
    intro i k o hi ho hk hr
    obtain ⟨k, rfl⟩ : ∃ q, k = q + 1 := ⟨k - 1, by omega⟩
    obtain ⟨e1, e2, e3, e4, e5⟩ := rp_expr a p s gap sp ga g h1 h2 (i : Int) (by omega) (by omega)
    simp only [spec_RingPlaces.l0]
    rw [if_pos (by omega), e1, e2, e_meMod _ _ e4 (by omega)]
    simp only [Option.bind_some]
    rw [e_l1Put k _ _ (by omega) (by omega)]
    simp only [Option.bind_some]
    rw [w64 _ (by omega) (by omega), show ((i : Int) + 1) = ((i + 1 : Nat) : Int) by omega]
    refine ih (i + 1) k _ (by omega) (by have := putL_len ((p * sp + s * (gap + (i : Int) * a)) % (a * sp)) o; omega) (by omega) (fun k hk => ?_)
    have := hr k hk
    simp only [List.range'_succ, List.map_cons, List.foldl_cons] at this
    exact this

theorem rp_mem (a p s gap sp : Int) (h4 : 0 < a * sp) (h5 : a * sp ≤ 200000) : ∀ n ∈ rpC a p s gap sp, -200000 ≤ n ∧ n ≤ 200000 := by
  intro n hn
  unfold rpC at hn
  rw [put_compact] at hn
  have := ((compact_sorted _).2 n).1 hn
  simp only [numsT, List.mem_map] at this
  obtain ⟨j, _, rfl⟩ := this
  unfold rpN
  have m0 := Int.emod_nonneg (p * sp + s * (gap + (j : Int) * a)) (show a * sp ≠ 0 by omega)
  have m1 := Int.emod_lt_of_pos (p * sp + s * (gap + (j : Int) * a)) h4
  omega
theorem rp_len (a p s gap sp : Int) (h2 : 1 ≤ sp ∧ sp ≤ 200) : (rpC a p s gap sp).length ≤ 1000 := by
  have := foldl_put_len (numsT (rpN a p s gap sp) sp.toNat) []
  unfold rpC
  rw [numsT_len, List.length_nil] at this
  omega
theorem rp_sp (a p s p' s' : Int) (ga : gr a) (g : gk p s) (g' : gk p' s') (hne : ¬ s = s') : (0 ≤ (ringV a p s p' s').1 ∧ (ringV a p s p' s').1 < a) ∧ (1 ≤ (ringV a p s p' s').2 ∧ (ringV a p s p' s').2 ≤ 200) := by
  refine ⟨(ring_bd a p s p' s' ga g g').1, ?_⟩
  unfold gk at g g'; unfold ringV
  split <;> simp only <;> omega
theorem rp_spec (a p s p' s' : Int) (ga : gr a) (g : gk p s) (g' : gk p' s') (hne : ¬ s = s') (k : Nat) (hk : 10000000 < k) :
    spec_RingPlaces.f k a p s p' s' = some (rpRows (rpL (ringV a p s p' s').2) (rpC a p s (ringV a p s p' s').1 (ringV a p s p' s').2), true) := by
  obtain ⟨h1, h2⟩ := rp_sp a p s p' s' ga g g' hne
  have x := rp_expr a p s _ _ ga g h1 h2 0 (by omega) (by omega)
  unfold spec_RingPlaces.f
  rw [e_meRing]
  obtain ⟨k, rfl⟩ : ∃ q, k = q + 1 := ⟨k - 1, by omega⟩
  simp only [Option.bind_some, decide_eq_true_eq]
  rw [if_pos ⟨⟨ga, g⟩, g'⟩]
  simp only [spec_RingPlaces.j0]
  rw [if_neg (by simpa using hne), e_meAhead a p s p' s' ga g g']
  have e : ringV' a p s p' s' = ringV a p s p' s' := rfl
  rw [e]
  simp only [Option.bind_some]
  generalize (ringV a p s p' s').1 = gap at *
  generalize (ringV a p s p' s').2 = sp at *
  have q := rp_l0 a p s gap sp ga g h1 h2 (some (rpRows (rpL sp) (rpC a p s gap sp), true)) sp.toNat 0 k [] (by omega) (by simp; omega) (by omega) (fun k hk => by
    have r := rp_l1 sp h2 (rpC a p s gap sp) (rp_mem a p s gap sp x.2.2.2.1 x.2.2.2.2) (rp_len a p s gap sp h2) (rpC a p s gap sp).length 0 k (by omega) (by have := rp_len a p s gap sp h2; omega)
    have e2 : ((List.range' 0 sp.toNat).map (rpN a p s gap sp)).foldl (fun o x => putL x o) [] = rpC a p s gap sp := by unfold rpC numsT; rw [List.range_eq_range']
    rw [e2]
    simpa [rpRows] using r)
  simpa using q
theorem rp_impl (a p s p' s' : Int) (ga : gr a) (g : gk p s) (g' : gk p' s') (hne : ¬ s = s') (W : World) :
    Calls Try.prog 40 #[.int .i64 a, .agg #[.int .i64 p, .int .i64 s], .agg #[.int .i64 p', .int .i64 s']] W fun e w' => ∃ v, e = .returned (.tuple #[v, .bool true]) ∧ RRx W w' v (rpRows (rpL (ringV a p s p' s').2) (rpC a p s (ringV a p s p' s').1 (ringV a p s p' s').2)) := by
  obtain ⟨h1, h2⟩ := rp_sp a p s p' s' ga g g' hne
  have x := rp_expr a p s _ _ ga g h1 h2 0 (by omega) (by omega)
  have hg := e_ringGap a p s p' s' ga g g'
  refine rpP.yes 10000000 a p s p' s' _ W (by rw [e_isRing, decide_eq_true ga]) (by rw [e_iIsWalker, decide_eq_true g]) (by rw [e_iIsWalker, decide_eq_true g']) hne (fun W' => ?_)
  generalize hG : (ringV a p s p' s').1 = gap at *
  generalize hS : (ringV a p s p' s').2 = sp at *
  refine rp.calls 10000000 a p s p' s' gap sp (rpN a p s gap sp) (rpL sp) W' (by rw [hg, ← hG, ← hS]) (by omega) (by omega) (fun y y0 y1 => ?_) (rpC a p s gap sp) (by unfold rpC; rw [put_compact]) (rp_len a p s gap sp h2) (fun n hn => ?_)
  · obtain ⟨e1, e2, e3, e4, e5⟩ := rp_expr a p s gap sp ga g h1 h2 y y0 y1
    rw [e1, e2, e_around _ _ e4 40000000 (by omega) e3 (by omega)]
    unfold rpN
    rw [show ((y.toNat : Nat) : Int) = y by omega]
  · have b := rp_mem a p s gap sp x.2.2.2.1 x.2.2.2.2 n hn
    rw [e_lowest 10000000 n sp 200000 (by omega) (by omega) (by omega) (by omega) (by omega)]; rfl
theorem rp_all (a p s p' s' : Int) : ∃ v : List (List Int) × Bool, v.1.length ≤ 1000 ∧ (∀ r ∈ v.1, r.length = 2) ∧ (∀ k, 10000000 < k → spec_RingPlaces.f k a p s p' s' = some v) ∧
    ∀ W : World, Calls Try.prog 40 #[.int .i64 a, .agg #[.int .i64 p, .int .i64 s], .agg #[.int .i64 p', .int .i64 s']] W fun e w' => ∃ u, e = .returned (.tuple #[u, .bool v.2]) ∧ RRx W w' u v.1 := by
  by_cases good : ((gr a ∧ gk p s) ∧ gk p' s') ∧ ¬ s = s'
  · obtain ⟨⟨⟨ga, g⟩, g'⟩, hne⟩ := good
    obtain ⟨h1, h2⟩ := rp_sp a p s p' s' ga g g' hne
    refine ⟨_, ?_, ?_, rp_spec a p s p' s' ga g g' hne, rp_impl a p s p' s' ga g g' hne⟩
    · simp only [rpRows, List.length_map]; exact rp_len _ _ _ _ _ h2
    · intro r hr; simp only [rpRows, List.mem_map] at hr; obtain ⟨n, _, rfl⟩ := hr; rfl
  · refine ⟨([], false), by simp, by simp, fun k hk => ?_, fun W => ?_⟩
    · obtain ⟨k, rfl⟩ : ∃ q, k = q + 1 := ⟨k - 1, by omega⟩
      unfold spec_RingPlaces.f
      rw [e_meRing]
      simp only [Option.bind_some, decide_eq_true_eq, spec_RingPlaces.j0]
      by_cases c : (gr a ∧ gk p s) ∧ gk p' s'
      · have e : s = s' := Classical.byContradiction fun n => good ⟨c, n⟩
        rw [if_pos c, if_pos (by simpa using e)]
      · rw [if_neg c, if_pos trivial]
    · by_cases c0 : gr a
      · by_cases c1 : gk p s
        · by_cases c2 : gk p' s'
          · have e : s = s' := Classical.byContradiction fun n => good ⟨⟨⟨c0, c1⟩, c2⟩, n⟩
            subst e
            exact rpP.no4 a p s p' W (by rw [e_isRing, decide_eq_true c0]) (by rw [e_iIsWalker, decide_eq_true c1]) (by rw [e_iIsWalker, decide_eq_true c2])
          · exact rpP.no3 a p s p' s' W (by rw [e_isRing, decide_eq_true c0]) (by rw [e_iIsWalker, decide_eq_true c1]) (by rw [e_iIsWalker, decide_eq_false c2])
        · exact rpP.no2 a p s p' s' W (by rw [e_isRing, decide_eq_true c0]) (by rw [e_iIsWalker, decide_eq_false c1])
      · exact rpP.no1 a p s p' s' W (by rw [e_isRing, decide_eq_false c0])
theorem FnExactRingPlaces_all (a p s p' s' : Int) (w : World) :
    Calls Try.prog 11 #[.int .i64 a, .agg #[.int .i64 p, .int .i64 s], .agg #[.int .i64 p', .int .i64 s']] w fun e w' => e = .returned (.bool true) ∧ Below w.heap.size w w' := by
  obtain ⟨⟨rs, ok⟩, hl, h2, hS, hI⟩ := rp_all a p s p' s'
  obtain ⟨N, hN⟩ : ∃ N, 99999997 ≤ N := ⟨99999997, by omega⟩
  simp only at hl h2
  exact law11.calls N a p s p' s' rs ok w (e_toWalker p s) (e_toWalker p' s') (hS N (by omega)) hI (e_eqIntSS N rs h2 (by omega) (by omega)) hl
    (fun r c hr h0 h1 => e_mark4 N r c hr h0 h1 (by omega)) (e_heldSS N rs hl (by omega))

end Go.Proofs.Ytfeabflbgendbaa.Pure
