/- The pure statement of the law FnExactLeadersOf: what the program's function computes is what the reference's computes. -/
import Derived.Test.YtfeabflbgendbaaOFnExactLeadersOfx7
namespace Go.Proofs.Ytfeabflbgendbaa.Pure
open Go.RowKit Go.Proofs.Ytfeabflbgendbaa.OFnExactLeadersOf Go.Proofs.YtfeabflbgendbaaW.PrintWords Go.Proofs.YtfeabflbgendbaaW.PrintLast Go.Proofs.YtfeabflbgendbaaW.PrintMore
set_option linter.unusedVariables false
set_option linter.unusedSimpArgs false
theorem w64 (n : Int) (h1 : -9223372036854775808 ≤ n) (h2 : n ≤ 9223372036854775807) : wrap64 n = n := by unfold wrap64; omega
theorem dec_and (p q : Prop) [Decidable p] [Decidable q] [Decidable (p ∧ q)] : (if p then some (decide q) else some false) = some (decide (p ∧ q)) := by
  by_cases h : p <;> by_cases h' : q <;> simp [h, h']
theorem le_cases (a b c : Int) : (if a ≥ b then some (decide (a ≤ c)) else some false) = some (decide (b ≤ a ∧ a ≤ c)) := by
  by_cases h : b ≤ a <;> by_cases h' : a ≤ c <;> simp [h, h']
def gd (u d : Int) : Prop := 1 ≤ u ∧ u ≤ 1000 ∧ 0 ≤ d ∧ d ≤ 1000
instance (u d : Int) : Decidable (gd u d) := by unfold gd; infer_instance
def gk (p s : Int) : Prop := -1000 ≤ p ∧ p ≤ 1000 ∧ -100 ≤ s ∧ s ≤ 100
instance (p s : Int) : Decidable (gk p s) := by unfold gk; infer_instance
def gw (w : Int) : Prop := 1 ≤ w ∧ w ≤ 1000000
instance (w : Int) : Decidable (gw w) := by unfold gw; infer_instance
def reach (u d day : Int) : Int := if u ≤ d then u else u + (day - 1) * (u - d)
def dayH (u d h : Int) : Int := if h ≤ u then 1 else if u ≤ d then 0 else 1 + (h - u + (u - d) - 1) / (u - d)
theorem mul_bd (a b A B : Int) (h1 : 0 ≤ a) (h2 : a ≤ A) (h3 : 0 ≤ b) (h4 : b ≤ B) : 0 ≤ a * b ∧ a * b ≤ A * B :=
  ⟨Int.mul_nonneg h1 h3, Int.mul_le_mul h2 h4 h3 (by omega)⟩
theorem reach_bd (u d day : Int) (g : gd u d) (w : gw day) : u ≤ reach u d day ∧ reach u d day ≤ 1000000000 := by
  unfold gd at g; unfold gw at w; unfold reach
  split
  · omega
  · have := mul_bd (day - 1) (u - d) 999999 1000 (by omega) (by omega) (by omega) (by omega)
    omega
theorem div_bd (x g : Int) (hg : 1 ≤ g) (hx : 0 ≤ x) : 0 ≤ x / g ∧ x / g ≤ x :=
  ⟨Int.ediv_nonneg hx (by omega), Int.ediv_le_self _ hx⟩
theorem dayH_bd (u d h : Int) (g : gd u d) (hh : h ≤ 1000000) : 0 ≤ dayH u d h ∧ dayH u d h ≤ 1001000 := by
  unfold gd at g; unfold dayH
  split
  · omega
  · split
    · omega
    · have := div_bd (h - u + (u - d) - 1) (u - d) (by omega) (by omega)
      omega
theorem ceil_le (x g n : Int) (hg : 1 ≤ g) : (x + g - 1) / g ≤ n ↔ x ≤ n * g := by
  have h : (x + g - 1) / g < n + 1 ↔ x + g - 1 < (n + 1) * g := Int.ediv_lt_iff_lt_mul (by omega)
  have e : (n + 1) * g = n * g + g := by rw [Int.add_mul, Int.one_mul]
  rw [e] at h
  constructor
  · intro k; have := h.mp (by omega); omega
  · intro k; have := h.mpr (by omega); omega
/-- The day is reached at the end of a day just if that day is not before it. -/
theorem dayH_le (u d h day : Int) (hd : 1 ≤ day) : (0 < dayH u d h ∧ dayH u d h ≤ day) ↔ h ≤ reach u d day := by
  unfold dayH reach
  by_cases h1 : h ≤ u
  · rw [if_pos h1]
    split
    · omega
    · have := Int.mul_nonneg (show 0 ≤ day - 1 by omega) (show 0 ≤ u - d by omega)
      omega
  · rw [if_neg h1]
    by_cases h2 : u ≤ d
    · rw [if_pos h2, if_pos h2]; omega
    · rw [if_neg h2, if_neg h2]
      have a := Int.ediv_nonneg (show 0 ≤ h - u + (u - d) - 1 by omega) (show 0 ≤ u - d by omega)
      have c := ceil_le (h - u) (u - d) (day - 1) (by omega)
      constructor
      · rintro ⟨_, k⟩; have := c.mp (by omega); omega
      · intro k; have := c.mpr (by omega); omega
def daysV (u d w : Int) : Int × Bool := if gd u d ∧ gw w then (dayH u d w, decide (0 < dayH u d w)) else (0, false)
def greatV (u d w : Int) : Int × Bool := if gd u d ∧ gw w then (reach u d w, true) else (0, false)
def evenV (u d w day : Int) : Int × Bool := if (gd u d ∧ gw w) ∧ gw day then (min w (reach u d day), true) else (0, false)
def mornV (u d w day : Int) : Int × Bool := if (gd u d ∧ gw w) ∧ gw day then (if day = 1 then 0 else if min w (reach u d (day - 1)) = w then w else max 0 (min w (reach u d (day - 1)) - d), true) else (0, false)
def mornI (u d w day : Int) : Int := if day = 1 then 0 else if min w (reach u d (day - 1)) = w then w else max 0 (min w (reach u d (day - 1)) - d)
def dayV (u d w h : Int) : Int × Bool := if (gd u d ∧ gw w) ∧ 0 ≤ h ∧ h ≤ w then (dayH u d h, decide (0 < dayH u d h)) else (0, false)
def leadV (u d u' d' w day : Int) : Int × Bool := if ((gd u d ∧ gw w) ∧ gd u' d') ∧ gw day then (min w (reach u d day) - min w (reach u' d' day), true) else (0, false)
def upL (P : Int → Bool) : Nat → Int → Int × Bool
  | 0, _ => (0, false)
  | n + 1, up => if P up = true then (up, true) else upL P n (up + 1)
def slowP (w days d up : Int) : Bool := decide (w ≤ reach up d days)
def slowV (w days d : Int) : Int × Bool := if (gw w ∧ gw days) ∧ 0 ≤ d ∧ d ≤ 1000 then upL (slowP w days d) 1000 1 else (0, false)
def downL (P : Int → Bool) : Nat → Int → Int × Bool
  | 0, _ => (0, false)
  | n + 1, x => if P x = true then (x, true) else downL P n (x - 1)
def mostP (w days u x : Int) : Bool := decide (w ≤ reach u x days)
def mostV (w days u : Int) : Int × Bool := if (gw w ∧ gw days) ∧ 1 ≤ u ∧ u ≤ 1000 then downL (mostP w days u) 1001 1000 else (0, false)
theorem e_within (a b c : Int) : impl_within.f a b c = some (decide (b ≤ a ∧ a ≤ c)) := by
  unfold impl_within.f; exact le_cases a b c
theorem e_l1In (a b c : Int) : spec_l1In.f a b c = some (decide (b ≤ a ∧ a ≤ c)) := by
  unfold spec_l1In.f; exact le_cases a b c
theorem e_toWalker (u d : Int) : laws_toWalker.f u d = some (u, d) := rfl
theorem e_iIsWalker (u d : Int) : impl_IsWalker.f u d = some (decide (gk u d)) := by
  unfold impl_IsWalker.f; simp only [e_within, Option.bind_some]
  by_cases h : -1000 ≤ u ∧ u ≤ 1000 <;> by_cases h' : -100 ≤ d ∧ d ≤ 100 <;> simp [gk, h, h'] <;> omega
theorem e_meGood (u d : Int) : spec_meGood.f u d = some (decide (gk u d)) := by
  unfold spec_meGood.f; simp only [e_l1In, Option.bind_some]
  by_cases h : -1000 ≤ u ∧ u ≤ 1000 <;> by_cases h' : -100 ≤ d ∧ d ≤ 100 <;> simp [gk, h, h'] <;> omega
theorem e_l1Most (a b : Int) : spec_l1Most.f a b = some (max a b) := by
  unfold spec_l1Most.f; split <;> (congr 1; omega)
theorem uniq (a b q r : Int) (hb : 0 < b) (e : b * q + r = a) (h0 : 0 ≤ r) (h1 : r < b) : a / b = q ∧ a % b = r :=
  (Int.ediv_emod_unique hb).mpr ⟨by rw [← e]; exact Int.add_comm _ _, h0, h1⟩
theorem tm_bd (a b : Int) (hb : 0 < b) : b * a.tdiv b + a.tmod b = a ∧ -b < a.tmod b ∧ a.tmod b < b :=
  ⟨Int.mul_tdiv_add_tmod a b, Int.lt_tmod_of_pos a hb, Int.tmod_lt_of_pos a hb⟩
theorem floor_is (a b : Int) (hb : 0 < b) : (if a.tmod b < 0 then a.tdiv b - 1 else a.tdiv b) = a / b := by
  obtain ⟨e, h0, h1⟩ := tm_bd a b hb
  split
  · have := uniq a b (a.tdiv b - 1) (a.tmod b + b) hb (by rw [Int.mul_sub]; omega) (by omega) (by omega)
    exact this.1.symm
  · have := uniq a b (a.tdiv b) (a.tmod b) hb e (by omega) h1
    exact this.1.symm
theorem mod_is (a b : Int) (hb : 0 < b) : (a.tmod b + b).tmod b = a % b := by
  obtain ⟨e, h0, h1⟩ := tm_bd a b hb
  rw [Int.tmod_eq_emod_of_nonneg (by omega), Int.add_emod_right]
  have h := Int.add_mul_emod_self_left (a.tmod b) b (a.tdiv b)
  rw [Int.add_comm, e] at h
  exact h.symm
theorem abs_mx (a : Int) : mx a (-a) = (a.natAbs : Int) := by unfold mx; split <;> omega
theorem gcd_pos (num den : Int) (h : den ≠ 0) : 0 < (Int.gcd num den : Int) := by
  have : 0 < Int.gcd num den := Int.gcd_pos_of_ne_zero_right _ h
  omega
theorem tdiv_ex (a g : Int) (h : g ∣ a) : a.tdiv g = a / g := Int.tdiv_eq_ediv_of_dvd h
def gt (a b : Int) : Prop := 0 ≤ a ∧ a ≤ 1000000 ∧ 1 ≤ b ∧ b ≤ 1000
instance (a b : Int) : Decidable (gt a b) := by unfold gt; infer_instance
def gr (a : Int) : Prop := 1 ≤ a ∧ a ≤ 1000
instance (a : Int) : Decidable (gr a) := by unfold gr; infer_instance
def lowN (num den : Int) : Int := (if den < 0 then -num else num) / (Int.gcd num den : Int)
def lowD (num den : Int) : Int := (if den < 0 then -den else den) / (Int.gcd num den : Int)
def placeV (p s num den : Int) : Int := p * den + s * num
def wpV (p s num den : Int) : Int × Int × Bool := if gk p s ∧ gt num den then (lowN (placeV p s num den) den, lowD (placeV p s num den) den, true) else (0, 0, false)
def gapV (p s p' s' num den : Int) : Int := ((placeV p s num den - placeV p' s' num den).natAbs : Int)
def gaV (p s p' s' num den : Int) : Int × Int × Bool := if (gk p s ∧ gk p' s') ∧ gt num den then (lowN (gapV p s p' s' num den) den, lowD (gapV p s p' s' num den) den, true) else (0, 0, false)
def meetV (p s p' s' : Int) : Int × Int × Bool := if p = p' then (0, 1, true) else if s = s' then (0, 0, false) else if lowN (p' - p) (s - s') < 0 then (0, 0, false) else (lowN (p' - p) (s - s'), lowD (p' - p) (s - s'), true)
def mtV (p s p' s' : Int) : Int × Int × Bool := if gk p s ∧ gk p' s' then meetV p s p' s' else (0, 0, false)
def mpV (p s p' s' : Int) : Int × Int × Bool := if (gk p s ∧ gk p' s') ∧ (meetV p s p' s').2.2 = true then (lowN (placeV p s (meetV p s p' s').1 (meetV p s p' s').2.1) (meetV p s p' s').2.1, lowD (placeV p s (meetV p s p' s').1 (meetV p s p' s').2.1) (meetV p s p' s').2.1, true) else (0, 0, false)
def ringV (a p s p' s' : Int) : Int × Int := if s < s' then ((p - p') % a, s' - s) else ((p' - p) % a, s - s')
def ringV' (a p s p' s' : Int) : Int × Int := if s < s' then ((p - p') % a, s' - s) else ((p' - p) % a, s - s')
def rgV (a p s p' s' : Int) : Int × Int × Bool := if ((gr a ∧ gk p s) ∧ gk p' s') ∧ ¬ s = s' then (lowN a ((s - s').natAbs : Int), lowD a ((s - s').natAbs : Int), true) else (0, 0, false)
def crV (a p s p' s' t : Int) : Int × Bool := if (((gr a ∧ gk p s) ∧ gk p' s') ∧ ¬ s = s') ∧ 0 ≤ t ∧ t ≤ 1000 then (if t * (ringV a p s p' s').2 < (ringV a p s p' s').1 then 0 else (t * (ringV a p s p' s').2 - (ringV a p s p' s').1) / a + 1, true) else (0, false)
theorem div_abs (a g : Int) (hg : 1 ≤ g) (B : Int) (h : -B ≤ a ∧ a ≤ B) : -B ≤ a / g ∧ a / g ≤ B := by
  constructor
  · have : -B ≤ a / g ↔ -B * g ≤ a := Int.le_ediv_iff_mul_le (by omega)
    refine this.mpr ?_
    have hB : 0 ≤ B := by omega
    have := Int.mul_le_mul_of_nonneg_left hg hB
    rw [Int.neg_mul]; omega
  · rcases Int.lt_or_le a 0 with h' | h'
    · have : a / g < 0 ↔ a < 0 * g := Int.ediv_lt_iff_lt_mul (by omega)
      have := this.mpr (by omega)
      omega
    · have := Int.ediv_le_self g h'
      omega
theorem low_bd (num den B : Int) (hd : den ≠ 0) (h1 : -B ≤ num ∧ num ≤ B) (h2 : -B ≤ den ∧ den ≤ B) : (-B ≤ lowN num den ∧ lowN num den ≤ B) ∧ (1 ≤ lowD num den ∧ lowD num den ≤ B) := by
  have hg := gcd_pos num den hd
  refine ⟨?_, ?_⟩
  · unfold lowN; exact div_abs _ _ (by omega) B (by split <;> omega)
  · have h := div_abs (if den < 0 then -den else den) (Int.gcd num den : Int) (by omega) B (by split <;> omega)
    unfold lowD
    refine ⟨?_, h.2⟩
    have hd' : (Int.gcd num den : Int) ∣ (if den < 0 then -den else den) := by
      split
      · exact Int.dvd_neg.mpr (Int.gcd_dvd_right ..)
      · exact Int.gcd_dvd_right ..
    have hp : 0 < (if den < 0 then -den else den) := by split <;> omega
    have := Int.ediv_pos_of_pos_of_dvd hp (by omega) hd'
    omega
theorem lowN_neg (num den : Int) (hd : den ≠ 0) : lowN num den < 0 ↔ (if den < 0 then -num else num) < 0 := by
  have hg := gcd_pos num den hd
  unfold lowN
  have : (if den < 0 then -num else num) / (Int.gcd num den : Int) < 0 ↔ (if den < 0 then -num else num) < 0 * (Int.gcd num den : Int) := Int.ediv_lt_iff_lt_mul (by omega)
  rw [Int.zero_mul] at this
  exact this
theorem ediv_min (a g : Int) (h : g ∣ a) (hg : g ≠ 0) : -a / g = -(a / g) := Int.neg_ediv_of_dvd h
theorem abs_mul (a b A B : Int) (h1 : -A ≤ a ∧ a ≤ A) (h2 : 0 ≤ b ∧ b ≤ B) : -(A * B) ≤ a * b ∧ a * b ≤ A * B := by
  have hA : 0 ≤ A := by omega
  have t : A * b ≤ A * B := Int.mul_le_mul_of_nonneg_left h2.2 hA
  have t1 : a * b ≤ A * b := Int.mul_le_mul_of_nonneg_right h1.2 h2.1
  have t2 : -A * b ≤ a * b := Int.mul_le_mul_of_nonneg_right h1.1 h2.1
  rw [Int.neg_mul] at t2
  omega
theorem e_absOf (a : Int) (h1 : -9000000000000000000 ≤ a) (h2 : a ≤ 9000000000000000000) : impl_absOf.f a = some (a.natAbs : Int) := by
  unfold impl_absOf.f; rw [w64 (-a) (by omega) (by omega), abs_mx]
theorem e_l1Most' (a b : Int) : spec_l1Most.f a b = some (max a b) := by
  unfold spec_l1Most.f; split <;> (congr 1; omega)
theorem e_l1Abs (a : Int) (h1 : -9000000000000000000 ≤ a) (h2 : a ≤ 9000000000000000000) : spec_l1Abs.f a = some (a.natAbs : Int) := by
  unfold spec_l1Abs.f; rw [w64 (-a) (by omega) (by omega), e_l1Most']; simp only [Option.bind_some]; congr 1; omega
theorem e_div_l0 : ∀ (b a : Nat) (k : Nat), b < k → impl_divisorOf.l0 k (a : Int) (b : Int) = some ((Nat.gcd a b : Nat) : Int) := by
  intro b
  induction b using Nat.strongRecOn with
  | ind b ih =>
    intro a k hk
    obtain ⟨k, rfl⟩ : ∃ m, k = m + 1 := ⟨k - 1, by omega⟩
    simp only [impl_divisorOf.l0]
    by_cases h : b = 0
    · subst h; simp
    · have hm := Nat.mod_lt a (show b > 0 by omega)
      rw [if_pos (by omega), if_neg (by omega), Int.tmod_eq_emod_of_nonneg (by omega), ← Int.natCast_emod, ih (a % b) hm b k (by omega)]
      congr 2
      rw [Nat.gcd_comm a b, Nat.gcd_rec b a, Nat.gcd_comm]
theorem e_divisorOf (k : Nat) (a b : Int) (ha : 0 ≤ a) (hb : 0 ≤ b) (hk : b < k) : impl_divisorOf.f k a b = some (Int.gcd a b : Int) := by
  unfold impl_divisorOf.f
  have := e_div_l0 b.natAbs a.natAbs k (by omega)
  rw [show ((a.natAbs : Nat) : Int) = a by omega, show ((b.natAbs : Nat) : Int) = b by omega] at this
  exact this
theorem e_lowest (k : Nat) (num den B : Int) (hd : den ≠ 0) (hB : B ≤ 4000000000000000000) (h1 : -B ≤ num ∧ num ≤ B) (h2 : -B ≤ den ∧ den ≤ B) (hk : B < k) : impl_lowest.f k num den = some (lowN num den, lowD num den) := by
  have hb := low_bd num den B hd h1 h2
  have hg := gcd_pos num den hd
  have d1 : (Int.gcd num den : Int) ∣ num := Int.gcd_dvd_left ..
  have d2 : (Int.gcd num den : Int) ∣ den := Int.gcd_dvd_right ..
  unfold impl_lowest.f
  by_cases c : den < 0
  · rw [if_pos c, w64 (-num) (by omega) (by omega), w64 (-den) (by omega) (by omega), e_absOf _ (by omega) (by omega)]
    simp only [Option.bind_some]
    rw [e_divisorOf k _ _ (by omega) (by omega) (by omega)]
    have e : Int.gcd (-den) (((-num).natAbs : Nat) : Int) = Int.gcd num den := by
      rw [Int.gcd_comm num den]; simp [Int.gcd]
    simp only [Option.bind_some]
    rw [e, if_neg (by omega), tdiv_ex _ _ (Int.dvd_neg.mpr d1), tdiv_ex _ _ (Int.dvd_neg.mpr d2)]
    unfold lowN lowD at hb ⊢
    rw [if_pos c, if_pos c] at hb
    rw [if_pos c, if_pos c, w64 _ (by omega) (by omega), w64 _ (by omega) (by omega)]
  · rw [if_neg c, e_absOf _ (by omega) (by omega)]
    simp only [Option.bind_some]
    rw [e_divisorOf k _ _ (by omega) (by omega) (by omega)]
    have e : Int.gcd den ((num.natAbs : Nat) : Int) = Int.gcd num den := by
      rw [Int.gcd_comm num den]; simp [Int.gcd]
    simp only [Option.bind_some]
    rw [e, if_neg (by omega), tdiv_ex _ _ d1, tdiv_ex _ _ d2]
    unfold lowN lowD at hb ⊢
    rw [if_neg c, if_neg c] at hb
    rw [if_neg c, if_neg c, w64 _ (by omega) (by omega), w64 _ (by omega) (by omega)]
theorem e_meLow_l0 (x y : Int) (B : Int) (hB : B ≤ 4000000000000000000) (h1 : -B ≤ x ∧ x ≤ B) (h2 : 1 ≤ y ∧ y ≤ B) : ∀ (b a : Nat) (k : Nat), b < k → (Nat.gcd a b) = Int.gcd x y → spec_meLow.l0 k x y (a : Int) (b : Int) = some (x / (Int.gcd x y : Int), y / (Int.gcd x y : Int)) := by
  intro b
  induction b using Nat.strongRecOn with
  | ind b ih =>
    intro a k hk hg
    obtain ⟨k, rfl⟩ : ∃ m, k = m + 1 := ⟨k - 1, by omega⟩
    simp only [spec_meLow.l0]
    by_cases h : b = 0
    · subst h
      have hp := gcd_pos x y (by omega)
      have d1 : (Int.gcd x y : Int) ∣ x := Int.gcd_dvd_left ..
      have d2 : (Int.gcd x y : Int) ∣ y := Int.gcd_dvd_right ..
      have b1 := div_abs x (Int.gcd x y : Int) (by omega) B h1
      have b2 := div_abs y (Int.gcd x y : Int) (by omega) B (by omega)
      rw [Nat.gcd_zero_right] at hg
      subst hg
      rw [if_neg (by omega), if_neg (by omega), tdiv_ex _ _ d1, tdiv_ex _ _ d2, w64 _ (by omega) (by omega), w64 _ (by omega) (by omega)]
    · have hm := Nat.mod_lt a (show b > 0 by omega)
      rw [if_pos (by omega), if_neg (by omega), Int.tmod_eq_emod_of_nonneg (by omega), ← Int.natCast_emod]
      refine ih (a % b) hm b k (by omega) ?_
      rw [← hg, Nat.gcd_comm a b, Nat.gcd_rec b a, Nat.gcd_comm]
theorem e_meLow (k : Nat) (num den B : Int) (hd : den ≠ 0) (hB : B ≤ 4000000000000000000) (h1 : -B ≤ num ∧ num ≤ B) (h2 : -B ≤ den ∧ den ≤ B) (hk : B + 1 < k) : spec_meLow.f k num den = some (lowN num den, lowD num den) := by
  obtain ⟨k, rfl⟩ : ∃ m, k = m + 1 := ⟨k - 1, by omega⟩
  unfold spec_meLow.f lowN lowD
  by_cases c : den < 0
  · rw [if_pos c, if_pos c, if_pos c, w64 (-num) (by omega) (by omega), w64 (-den) (by omega) (by omega)]
    simp only [spec_meLow.j0]
    rw [e_l1Abs _ (by omega) (by omega)]
    simp only [Option.bind_some]
    have := e_meLow_l0 (-num) (-den) B hB (by omega) (by omega) (-den).natAbs (-num).natAbs k (by omega) rfl
    rw [show (((-den).natAbs : Nat) : Int) = -den by omega] at this
    rw [this]; simp [Int.gcd]
  · rw [if_neg c, if_neg c, if_neg c]
    simp only [spec_meLow.j0]
    rw [e_l1Abs _ (by omega) (by omega)]
    simp only [Option.bind_some]
    have := e_meLow_l0 num den B hB (by omega) (by omega) den.natAbs num.natAbs k (by omega) rfl
    rw [show ((den.natAbs : Nat) : Int) = den by omega] at this
    rw [this]
theorem e_meetingTime (k : Nat) (p s p' s' : Int) (g : gk p s) (g' : gk p' s') (hk : 10000 < k) : impl_meetingTime.f k p s p' s' = some (meetV p s p' s') := by
  unfold gk at g g'; unfold impl_meetingTime.f meetV
  by_cases h : p = p'
  · rw [if_pos h, if_pos h]
  · by_cases h2 : s = s'
    · rw [if_neg h, if_neg h, if_pos h2, if_pos h2]
    · rw [if_neg h, if_neg h, if_neg h2, if_neg h2, w64 _ (by omega) (by omega), w64 _ (by omega) (by omega), e_lowest k _ _ 2000 (by omega) (by omega) (by omega) (by omega) (by omega)]
      simp only [Option.bind_some]
      split <;> rfl
theorem e_meMeet (k : Nat) (p s p' s' : Int) (g : gk p s) (g' : gk p' s') (hk : 10000 < k) : spec_meMeet.f k p s p' s' = some (meetV p s p' s') := by
  unfold gk at g g'; unfold spec_meMeet.f meetV
  rw [w64 (p' - p) (by omega) (by omega), w64 (s - s') (by omega) (by omega)]
  by_cases h : p = p'
  · rw [if_pos (by omega), if_pos h]
  · by_cases h2 : s = s'
    · rw [if_neg (by omega), if_neg h, if_pos (by omega), if_pos h2]
    · have hn := lowN_neg (p' - p) (s - s') (by omega)
      rw [if_neg (by omega), if_neg h, if_neg (by omega), if_neg h2]
      by_cases c : lowN (p' - p) (s - s') < 0
      · have := hn.mp c
        rw [if_pos c, if_pos]
        by_cases a : p' - p > 0 <;> by_cases b : s - s' > 0 <;> simp [a, b] <;> (split at this <;> omega)
      · have := fun z => c (hn.mpr z)
        rw [if_neg c, if_neg, e_meLow k _ _ 2000 (by omega) (by omega) (by omega) (by omega) (by omega)]
        · rfl
        · by_cases a : p' - p > 0 <;> by_cases b : s - s' > 0 <;> simp [a, b] <;> (split at this <;> omega)
theorem meet_bd (p s p' s' : Int) (g : gk p s) (g' : gk p' s') (h : (meetV p s p' s').2.2 = true) : (0 ≤ (meetV p s p' s').1 ∧ (meetV p s p' s').1 ≤ 2000) ∧ (1 ≤ (meetV p s p' s').2.1 ∧ (meetV p s p' s').2.1 ≤ 200) := by
  unfold gk at g g'; unfold meetV at h ⊢
  by_cases c : p = p'
  · rw [if_pos c]; simp
  · by_cases c2 : s = s'
    · rw [if_neg c, if_pos c2] at h; simp at h
    · by_cases c3 : lowN (p' - p) (s - s') < 0
      · rw [if_neg c, if_neg c2, if_pos c3] at h; simp at h
      · rw [if_neg c, if_neg c2, if_neg c3]
        have b := low_bd (p' - p) (s - s') 2000 (by omega) (by omega) (by omega)
        have hd : lowD (p' - p) (s - s') ≤ 200 := by
          have hg := gcd_pos (p' - p) (s - s') (by omega)
          have := div_abs (if s - s' < 0 then -(s - s') else s - s') (Int.gcd (p' - p) (s - s') : Int) (by omega) 200 (by split <;> omega)
          unfold lowD; exact this.2
        simp only; omega
theorem rdn (l : List Int) (i : Nat) : rd l (i : Int) = l.getD i 0 := by simp [rd]
theorem drop_cons (l : List Int) (i : Nat) (h : i < l.length) : l.drop i = l.getD i 0 :: l.drop (i + 1) := by
  rw [List.drop_eq_getElem_cons h]; simp [List.getD_eq_getElem?_getD, h]
theorem getD_mem (l : List Int) (i : Nat) (h : i < l.length) : l.getD i 0 ∈ l := by
  simp [List.getD_eq_getElem?_getD, h]
theorem round1 {k n : Nat} (h : n < k) : ∃ m, k = m + 1 ∧ n ≤ m := ⟨k - 1, by omega, by omega⟩
def gs (up : Int) (s : List Int) : Prop := (1 ≤ up ∧ up ≤ 1000) ∧ (1 ≤ (s.length : Int) ∧ (s.length : Int) ≤ 12) ∧ ∀ x ∈ s, 0 ≤ x ∧ x ≤ 1000
instance (up : Int) (s : List Int) : Decidable (gs up s) := by unfold gs; infer_instance
/-- The slip of the night behind day j + 1. -/
def sl (s : List Int) (j : Nat) : Int := s.getD (j % s.length) 0
theorem sl_bd (up : Int) (s : List Int) (g : gs up s) (j : Nat) : 0 ≤ sl s j ∧ sl s j ≤ 1000 := by
  obtain ⟨_, h, ha⟩ := g
  exact ha _ (getD_mem s _ (Nat.mod_lt _ (by omega)))
theorem tmod_nat (j n : Nat) : Int.tmod (j : Int) (n : Int) = ((j % n : Nat) : Int) := by
  rw [Int.tmod_eq_emod_of_nonneg (by omega), Int.natCast_emod]
/-- How far it comes at most: rounds left, day, height in the morning, most so far. -/
def gsL (up : Int) (s : List Int) : Nat → Nat → Int → Int → Int
  | 0, _, _, most => most
  | n + 1, j, m, most => gsL up s n (j + 1) (max 0 (m + up - sl s j)) (max most (m + up))
def gwsV (up : Int) (s : List Int) (days : Int) : Int × Bool := if gs up s ∧ gw days then (gsL up s days.toNat 0 0 0, true) else (0, false)
theorem e_eqIntS_l0 (l : List Int) (hl : (l.length : Int) ≤ 9000000000000000000) : ∀ (n i k : Nat), i + n = l.length → n < k → laws_eqIntS.l0 k l l (i : Int) = some true := by
  intro n
  induction n with
  | zero =>
    intro i k hi hk
    obtain ⟨k, rfl, hk⟩ := round1 hk
    simp only [laws_eqIntS.l0]; rw [if_neg (by omega)]
  | succ n ih =>
    intro i k hi hk
    obtain ⟨k, rfl, hk⟩ := round1 hk
    simp only [laws_eqIntS.l0]
    rw [if_pos (by omega), if_pos (by omega), if_pos (by omega), if_true, w64 _ (by omega) (by omega), show ((i : Int) + 1) = ((i + 1 : Nat) : Int) by omega]
    exact ih (i + 1) k (by omega) (by omega)
theorem e_eqIntS (k : Nat) (l : List Int) (hl : (l.length : Int) ≤ 9000000000000000000) (hk : l.length < k) : laws_eqIntS.f k l l = some true := by
  unfold laws_eqIntS.f; rw [if_pos rfl]; exact e_eqIntS_l0 l hl l.length 0 k (by omega) hk
def markL (l : List Int) (c : Int) : Nat → Nat → List Int
  | 0, _ => l
  | n + 1, i => markL (l.set i c) (c + 1) n (i + 1)
theorem markL_length : ∀ (n i : Nat) (l : List Int) (c : Int), (markL l c n i).length = l.length := by
  intro n; induction n with
  | zero => intro i l c; rfl
  | succ n ih => intro i l c; simp [markL, ih]
theorem markL_below : ∀ (n i : Nat) (l : List Int) (c : Int) (j : Nat), j < i → (markL l c n i).getD j 0 = l.getD j 0 := by
  intro n; induction n with
  | zero => intro i l c j h; rfl
  | succ n ih =>
    intro i l c j h
    simp only [markL]; rw [ih (i + 1) _ _ j (by omega)]
    simp only [List.getD_eq_getElem?_getD]; rw [List.getElem?_set_ne (by omega)]
theorem markL_at : ∀ (n i : Nat) (l : List Int) (c : Int) (j : Nat), i + n = l.length → i ≤ j → j < l.length → (markL l c n i).getD j 0 = c + (j - i : Nat) := by
  intro n; induction n with
  | zero => intro i l c j h h1 h2; omega
  | succ n ih =>
    intro i l c j h h1 h2
    simp only [markL]
    rcases Nat.lt_or_ge i j with h3 | h3
    · rw [ih (i + 1) _ _ j (by simp; omega) (by omega) (by simpa using h2)]; omega
    · have e : j = i := by omega
      subst e
      rw [markL_below n (j + 1) _ _ j (by omega)]
      simp [List.getD_eq_getElem?_getD, h2]
theorem e_markIntS_l0 : ∀ (n i k : Nat) (l : List Int) (c : Int), (l.length : Int) ≤ 4000000000000000000 → i + n = l.length → 0 ≤ c → c ≤ 1 + i → n < k → laws_markIntS.l0 k l c (i : Int) = some (c + n, markL l c n i) := by
  intro n
  induction n with
  | zero =>
    intro i k l c hl hi h0 h1 hk
    obtain ⟨k, rfl, hk⟩ := round1 hk
    simp only [laws_markIntS.l0, markL]; rw [if_neg (by omega)]; simp
  | succ n ih =>
    intro i k l c hl hi h0 h1 hk
    obtain ⟨k, rfl, hk⟩ := round1 hk
    simp only [laws_markIntS.l0, markL]
    rw [if_pos (by omega), if_pos (by omega), w64 (c + 1) (by omega) (by omega), w64 _ (by omega) (by omega), show ((i : Int)).toNat = i by omega, show ((i : Int) + 1) = ((i + 1 : Nat) : Int) by omega]
    rw [ih (i + 1) k (l.set i c) (c + 1) (by simpa using hl) (by simp; omega) (by omega) (by omega) (by omega)]
    congr 2; omega
theorem e_markIntS (k : Nat) (l : List Int) (hl : (l.length : Int) ≤ 4000000000000000000) (hk : l.length < k) : laws_markIntS.f k l 1 = some (1 + (l.length : Int), markL l 1 l.length 0) := by
  unfold laws_markIntS.f; exact e_markIntS_l0 l.length 0 k l 1 hl (by omega) (by omega) (by omega) hk
theorem e_heldIntS_l0 (l : List Int) (hl : (l.length : Int) ≤ 4000000000000000000) (h : ∀ j, j < l.length → l.getD j 0 = 1 + j) : ∀ (n i k : Nat) (c : Int), i + n = l.length → c = 1 + i → n < k → laws_heldIntS.l0 k l c (i : Int) = some (c + n) := by
  intro n
  induction n with
  | zero =>
    intro i k c hi hc hk
    obtain ⟨k, rfl, hk⟩ := round1 hk
    simp only [laws_heldIntS.l0]; rw [if_neg (by omega)]; simp
  | succ n ih =>
    intro i k c hi hc hk
    obtain ⟨k, rfl, hk⟩ := round1 hk
    simp only [laws_heldIntS.l0]
    have := h i (by omega)
    rw [if_pos (by omega), if_pos (by omega), rdn, this, if_pos (by omega), w64 (c + 1) (by omega) (by omega), w64 _ (by omega) (by omega), show ((i : Int) + 1) = ((i + 1 : Nat) : Int) by omega]
    rw [ih (i + 1) k (c + 1) (by omega) (by omega) (by omega)]
    congr 1; omega
theorem e_heldIntS (k : Nat) (l : List Int) (hl : (l.length : Int) ≤ 4000000000000000000) (hk : l.length < k) : laws_heldIntS.f k (markL l 1 l.length 0) 1 = some (1 + (l.length : Int)) := by
  unfold laws_heldIntS.f
  have e := markL_length l.length 0 l 1
  have := e_heldIntS_l0 (markL l 1 l.length 0) (by rw [e]; exact hl) (fun j hj => by rw [e] at hj; have := markL_at l.length 0 l 1 j (by omega) (by omega) hj; rw [this]; omega) (markL l 1 l.length 0).length 0 k 1 (by omega) (by omega) (by omega)
  rw [e] at this; exact this
/-- How high it is in the morning before day j + 1, if there is no top. -/
def mor (up : Int) (s : List Int) : Nat → Int
  | 0 => 0
  | j + 1 => max 0 (mor up s j + up - sl s j)
theorem mor_bd (up : Int) (s : List Int) (g : gs up s) : ∀ j : Nat, 0 ≤ mor up s j ∧ mor up s j ≤ j * 1000 := by
  intro j
  induction j with
  | zero => simp [mor]
  | succ j ih =>
    have hs := sl_bd up s g j
    have g1 := g.1
    simp only [mor]
    omega
theorem sl_per (s : List Int) (j : Nat) : sl s (j + s.length) = sl s j := by unfold sl; rw [Nat.add_mod_right]
theorem mor_step (up : Int) (s : List Int) (a : Nat) (h : mor up s (a + s.length) ≤ mor up s a) : ∀ t, mor up s (a + t + s.length) ≤ mor up s (a + t) := by
  intro t
  induction t with
  | zero => exact h
  | succ t ih =>
    have e : a + (t + 1) + s.length = (a + t + s.length) + 1 := by omega
    rw [e, show a + (t + 1) = (a + t) + 1 by omega]
    simp only [mor]
    rw [sl_per s (a + t)]
    omega
theorem mor_never (up w : Int) (s : List Int) (hs : 1 ≤ s.length) (a : Nat) (h : mor up s (a + s.length) ≤ mor up s a) (hb : ∀ i, i < a + s.length → mor up s i + up < w) : ∀ j, mor up s j + up < w := by
  intro j
  induction j using Nat.strongRecOn with
  | ind j ih =>
    rcases Nat.lt_or_ge j (a + s.length) with h1 | h1
    · exact hb j h1
    · have := mor_step up s a h (j - s.length - a)
      rw [show a + (j - s.length - a) + s.length = j by omega, show a + (j - s.length - a) = j - s.length by omega] at this
      have := ih (j - s.length) (by omega)
      omega
/-- What the day of the top is: the first one, or that there is none. -/
def DS (up : Int) (s : List Int) (w : Int) (r : Int × Bool) : Prop :=
  (∃ j : Nat, r = ((j : Int) + 1, true) ∧ mor up s j + up ≥ w ∧ ∀ i, i < j → mor up s i + up < w) ∨ (r = (0, false) ∧ ∀ j, mor up s j + up < w)
theorem DS_one (up : Int) (s : List Int) (w : Int) (r r' : Int × Bool) (h : DS up s w r) (h' : DS up s w r') : r = r' := by
  rcases h with ⟨j, e, a, b⟩ | ⟨e, a⟩ <;> rcases h' with ⟨j', e', a', b'⟩ | ⟨e', a'⟩
  · rcases Nat.lt_trichotomy j j' with h | h | h
    · have := b' j h; omega
    · rw [e, e', h]
    · have := b j' h; omega
  · have := a' j; omega
  · have := a j'; omega
  · rw [e, e']
def toI (x : S30) : S33 := ⟨x.f0, x.f1⟩
theorem getD_map_toI (l : List S30) (i : Nat) (h : i < l.length) : (l.map toI).getD i z33 = toI (l.getD i z30) := by
  simp [List.getD_eq_getElem?_getD, h]
theorem set_take_dropS (l m : List S33) (i : Nat) (h : i < l.length) (h' : i < m.length) : (l.take i ++ m.drop i).set i (l.getD i z33) = l.take (i + 1) ++ m.drop (i + 1) := by
  have hl : (l.take i).length = i := by simp; omega
  rw [List.set_append_right _ _ (by omega), hl, Nat.sub_self, List.drop_eq_getElem_cons h', List.set_cons_zero, List.take_succ_eq_append_getElem h, List.append_assoc]
  simp [List.getD_eq_getElem?_getD, h]
theorem e_toWalkerS_l0 (l : List S30) (hl : (l.length : Int) ≤ 9000000000000000000) : ∀ (n i k : Nat), i + n = l.length → n < k → laws_toWalkerS.l0 k l ((l.map toI).take i ++ (List.replicate l.length z33).drop i) (i : Int) = some (l.map toI) := by
  intro n
  induction n with
  | zero =>
    intro i k hi hk
    obtain ⟨k, rfl, hk⟩ := round1 hk
    simp only [laws_toWalkerS.l0]
    rw [if_neg (by omega), List.take_of_length_le (by simp; omega), List.drop_eq_nil_of_le (by simp; omega), List.append_nil]
  | succ n ih =>
    intro i k hi hk
    obtain ⟨k, rfl, hk⟩ := round1 hk
    simp only [laws_toWalkerS.l0, e_toWalker, Option.bind_some]
    rw [if_pos (by omega), if_pos (by omega), if_pos (by simp; omega), w64 _ (by omega) (by omega), show ((i : Int)).toNat = i by omega, show ((i : Int) + 1) = ((i + 1 : Nat) : Int) by omega]
    have e : (⟨(rd_T30 l (i : Int)).f0, (rd_T30 l (i : Int)).f1⟩ : S33) = (l.map toI).getD i z33 := by
      rw [getD_map_toI l i (by omega)]; unfold rd_T30 toI; rw [show ((i : Int)).toNat = i by omega]
    rw [e, set_take_dropS _ _ i (by simp; omega) (by simp; omega)]
    exact ih (i + 1) k (by omega) (by omega)
theorem e_toWalkerS (k : Nat) (l : List S30) (hl : l.length ≤ 1048576) (hk : l.length < k) : laws_toWalkerS.f k l = some (l.map toI) := by
  unfold laws_toWalkerS.f
  rw [if_pos (by omega), if_pos (by omega)]
  have := e_toWalkerS_l0 l (by omega) l.length 0 k (by omega) hk
  simpa using this
theorem e_szWalkerS (l : List S30) (hm : l.length ≤ maxLen) : laws_szWalkerS.f l 1048576 = some (if (l.length : Int) > 1048576 then -1 else 1048576 - (l.length : Int)) := by
  unfold maxLen at hm
  unfold laws_szWalkerS.f
  rw [w64 _ (by omega) (by omega)]
  split <;> split <;> first | rfl | omega
theorem e_eqWalker (a b : Int) : laws_eqWalker.f a b a b = some true := by
  unfold laws_eqWalker.f; simp
theorem e_eqWalkerS_l0 (l : List S33) (hl : (l.length : Int) ≤ 9000000000000000000) : ∀ (n i k : Nat), i + n = l.length → n < k → laws_eqWalkerS.l0 k l l (i : Int) = some true := by
  intro n
  induction n with
  | zero =>
    intro i k hi hk
    obtain ⟨k, rfl, hk⟩ := round1 hk
    simp only [laws_eqWalkerS.l0]; rw [if_neg (by omega)]
  | succ n ih =>
    intro i k hi hk
    obtain ⟨k, rfl, hk⟩ := round1 hk
    simp only [laws_eqWalkerS.l0, e_eqWalker, Option.bind_some]
    rw [if_pos (by omega), if_pos (by omega), if_pos (by omega), if_true, w64 _ (by omega) (by omega), show ((i : Int) + 1) = ((i + 1 : Nat) : Int) by omega]
    exact ih (i + 1) k (by omega) (by omega)
theorem e_eqWalkerS (k : Nat) (l : List S33) (hl : (l.length : Int) ≤ 9000000000000000000) (hk : l.length < k) : laws_eqWalkerS.f k l l = some true := by
  unfold laws_eqWalkerS.f; rw [if_pos rfl]; exact e_eqWalkerS_l0 l hl l.length 0 k (by omega) hk
def ws (l : List S33) : Prop := (1 ≤ (l.length : Int) ∧ (l.length : Int) ≤ 8) ∧ ∀ x ∈ l, gk x.f0 x.f1
instance (l : List S33) : Decidable (ws l) := by unfold ws; infer_instance
theorem drop_consS (l : List S33) (i : Nat) (h : i < l.length) : l.drop i = l.getD i z33 :: l.drop (i + 1) := by
  rw [List.drop_eq_getElem_cons h]; simp [List.getD_eq_getElem?_getD, h]
theorem rdS (l : List S33) (i : Nat) : rd_T33 l (i : Int) = l.getD i z33 := by unfold rd_T33; simp
theorem e_meAll_l0 (l : List S33) (hl : (l.length : Int) ≤ 9000000000000000000) : ∀ (n i k : Nat), i + n = l.length → n < k → spec_meAll.l0 k l (l.length : Int) (i : Int) = some (decide (∀ x ∈ l.drop i, gk x.f0 x.f1)) := by
  intro n
  induction n with
  | zero =>
    intro i k hi hk
    obtain ⟨k, rfl, hk⟩ := round1 hk
    simp only [spec_meAll.l0]
    rw [if_neg (by omega), List.drop_eq_nil_of_le (by omega)]; simp
  | succ n ih =>
    intro i k hi' hk
    obtain ⟨k, rfl, hk⟩ := round1 hk
    simp only [spec_meAll.l0]
    rw [if_pos (by omega), if_pos (by omega), if_pos (by omega), rdS, e_meGood, drop_consS l i (by omega), w64 _ (by omega) (by omega)]
    have e : ((i : Int) + 1) = ((i + 1 : Nat) : Int) := by omega
    rw [e, ih (i + 1) k (by omega) (by omega)]
    simp only [Option.bind_some, decide_eq_true_eq, List.forall_mem_cons]
    by_cases h : gk (l.getD i z33).f0 (l.getD i z33).f1
    · rw [if_pos h]; congr 1; exact decide_eq_decide.mpr ⟨fun z => ⟨h, z⟩, fun z => z.2⟩
    · rw [if_neg h]; congr 1; symm; rw [decide_eq_false_iff_not]; exact fun z => h z.1
theorem e_meAll (k : Nat) (l : List S33) (hl : (l.length : Int) ≤ 9000000000000000000) (hk : l.length < k) : spec_meAll.f k l = some (decide (ws l)) := by
  unfold spec_meAll.f ws
  have := e_meAll_l0 l hl l.length 0 k (by omega) hk
  rw [e_l1In]; simp only [Option.bind_some, decide_eq_true_eq]
  by_cases h : 1 ≤ (l.length : Int) ∧ (l.length : Int) ≤ 8
  · rw [if_pos h]; simp only [h, true_and, and_self]; exact this
  · rw [if_neg h]; simp only [h, false_and, decide_false]
theorem e_AreWalkers (l : List S33) (hl : (l.length : Int) ≤ 9000000000000000000) : impl_AreWalkers.f l = some (decide (ws l)) := by
  unfold impl_AreWalkers.f ws; rw [if_pos hl]
  congr 1
  rw [Bool.eq_iff_iff]
  simp only [Bool.and_eq_true, decide_eq_true_eq, List.all_eq_true, impl_AreWalkers.q, gk]
  exact decide_eq_true_iff.symm
def gtr (lap p s : Int) : Prop := (2 ≤ lap ∧ lap ≤ 1000) ∧ (0 ≤ p ∧ p ≤ lap - 1) ∧ 1 ≤ s ∧ s ≤ 100
instance (lap p s : Int) : Decidable (gtr lap p s) := by unfold gtr; infer_instance
def grt (t : Int) : Prop := 0 ≤ t ∧ t ≤ 1000000
instance (t : Int) : Decidable (grt t) := by unfold grt; infer_instance
def glp (t : Int) : Prop := 1 ≤ t ∧ t ≤ 100
instance (t : Int) : Decidable (glp t) := by unfold glp; infer_instance
theorem evs {α : Type} {g f : Nat → Option α} {r : α} (K : Nat) (h : ∀ k, K ≤ k → g (k + 1) = f k) (k : Ev f r) : Ev g r := by
  obtain ⟨K', k⟩ := k
  refine ⟨max K K' + 1, fun n hn => ?_⟩
  obtain ⟨m, rfl⟩ : ∃ m, n = m + 1 := ⟨n - 1, by omega⟩
  rw [h m (by omega)]
  exact k m (by omega)
theorem low_neg (a b : Int) (hb : b ≠ 0) : lowN (-a) (-b) = lowN a b ∧ lowD (-a) (-b) = lowD a b := by
  have e : Int.gcd (-a) (-b) = Int.gcd a b := by simp [Int.gcd]
  unfold lowN lowD
  rw [e]
  by_cases h : b < 0
  · rw [if_pos h, if_pos h, if_neg (by omega), if_neg (by omega)]; exact ⟨rfl, rfl⟩
  · rw [if_neg h, if_neg h, if_pos (by omega), if_pos (by omega), Int.neg_neg, Int.neg_neg]; exact ⟨rfl, rfl⟩
theorem meet_sym (p s p' s' : Int) : meetV p s p' s' = meetV p' s' p s := by
  unfold meetV
  by_cases h : p = p'
  · rw [if_pos h, if_pos h.symm]
  · by_cases h2 : s = s'
    · rw [if_neg h, if_neg (fun z : p' = p => h z.symm), if_pos h2, if_pos h2.symm]
    · have q := low_neg (p' - p) (s - s') (by omega)
      rw [show -(p' - p) = p - p' by omega, show -(s - s') = s' - s by omega] at q
      rw [if_neg h, if_neg (fun z : p' = p => h z.symm), if_neg h2, if_neg (fun z : s' = s => h2 z.symm), q.1, q.2]
theorem low_cross (a b : Int) (hb : b ≠ 0) : lowN a b * b = lowD a b * a := by
  have hg := gcd_pos a b hb
  obtain ⟨u, hu⟩ : (Int.gcd a b : Int) ∣ a := Int.gcd_dvd_left ..
  obtain ⟨v, hv⟩ : (Int.gcd a b : Int) ∣ b := Int.gcd_dvd_right ..
  unfold lowN lowD
  generalize (Int.gcd a b : Int) = g at *
  subst hu hv
  by_cases h : g * v < 0
  · rw [if_pos h, if_pos h, show -(g * u) = g * (-u) by rw [Int.mul_neg], show -(g * v) = g * (-v) by rw [Int.mul_neg], Int.mul_ediv_cancel_left _ (by omega), Int.mul_ediv_cancel_left _ (by omega)]
    rw [Int.neg_mul, Int.neg_mul, Int.mul_left_comm u g v, Int.mul_left_comm v g u, Int.mul_comm u v]
  · rw [if_neg h, if_neg h, Int.mul_ediv_cancel_left _ (by omega), Int.mul_ediv_cancel_left _ (by omega)]
    rw [Int.mul_left_comm u g v, Int.mul_left_comm v g u, Int.mul_comm u v]
/-- Where they meet: the time times the difference of speeds is the gap. -/
theorem meet_cross (p s p' s' : Int) (h : (meetV p s p' s').2.2 = true) (hp : p ≠ p') : (meetV p s p' s').1 * (s - s') = (meetV p s p' s').2.1 * (p' - p) ∧ s ≠ s' := by
  unfold meetV at h ⊢
  rw [if_neg hp] at h ⊢
  by_cases h2 : s = s'
  · rw [if_pos h2] at h; simp at h
  · rw [if_neg h2] at h ⊢
    by_cases h3 : lowN (p' - p) (s - s') < 0
    · rw [if_pos h3] at h; simp at h
    · rw [if_neg h3]
      exact ⟨low_cross _ _ (by omega), h2⟩
/-- One that is faster and behind is met. -/
theorem meet_ok (p s p' s' : Int) (hp : p < p') (hs : s > s') : (meetV p s p' s').2.2 = true := by
  unfold meetV
  have q := lowN_neg (p' - p) (s - s') (by omega)
  rw [if_neg (by omega), if_neg (by omega), if_neg]
  intro z
  have := q.mp z
  rw [if_neg (by omega)] at this
  omega
theorem mul_pos' {a b : Int} (ha : 0 < a) (hb : 0 < b) : 0 < a * b := Int.mul_pos ha hb
/-- a/b ≤ x/y and x/y ≤ u/v. -/
theorem frac_trans (a b x y u v : Int) (hb : 0 < b) (hy : 0 < y) (hv : 0 < v) (h1 : a * y ≤ x * b) (h2 : x * v ≤ u * y) : a * v ≤ u * b := by
  have e1 : a * y * v ≤ x * b * v := Int.mul_le_mul_of_nonneg_right h1 (by omega)
  have e2 : x * v * b ≤ u * y * b := Int.mul_le_mul_of_nonneg_right h2 (by omega)
  have e3 : (a * v) * y ≤ (u * b) * y := by
    rw [show (a * v) * y = a * y * v by rw [Int.mul_right_comm], show (u * b) * y = u * y * b by rw [Int.mul_right_comm]]
    rw [show x * b * v = x * v * b by rw [Int.mul_right_comm]] at e1
    omega
  exact Int.le_of_mul_le_mul_right e3 hy
/-- The walker with an index. -/
def wk (l : List S33) (i : Nat) : S33 := l.getD i z33
def best0 (l : List S33) : Nat → Nat → Nat → Nat
  | 0, _, c => c
  | m + 1, i, c => if (wk l i).f0 > (wk l c).f0 ∨ (wk l i).f0 = (wk l c).f0 ∧ (wk l i).f1 > (wk l c).f1 then best0 l m (i + 1) i else best0 l m (i + 1) c
def tm (l : List S33) (i c : Nat) : Int × Int × Bool := meetV (wk l i).f0 (wk l i).f1 (wk l c).f0 (wk l c).f1
def cand (l : List S33) (c i : Nat) : Prop := (wk l i).f1 > (wk l c).f1 ∧ (tm l i c).2.2 = true
instance (l : List S33) (c i : Nat) : Decidable (cand l c i) := by unfold cand; infer_instance
def scanL (l : List S33) (c : Nat) : Nat → Nat → Option (Nat × Int × Int) → Option (Nat × Int × Int)
  | 0, _, st => st
  | m + 1, i, none => if cand l c i then scanL l c m (i + 1) (some (i, (tm l i c).1, (tm l i c).2.1)) else scanL l c m (i + 1) none
  | m + 1, i, some (nx, a, b) => if cand l c i ∧ ((tm l i c).1 * b < a * (tm l i c).2.1 ∨ (tm l i c).1 * b = a * (tm l i c).2.1 ∧ (wk l i).f1 > (wk l nx).f1) then scanL l c m (i + 1) (some (i, (tm l i c).1, (tm l i c).2.1)) else scanL l c m (i + 1) (some (nx, a, b))
def allk (l : List S33) : Prop := ∀ i, i < l.length → gk (wk l i).f0 (wk l i).f1
theorem best0_lt (l : List S33) : ∀ (m i c : Nat), i + m = l.length → c < l.length → best0 l m i c < l.length := by
  intro m; induction m with
  | zero => intro i c _ h; exact h
  | succ m ih =>
    intro i c h hc
    simp only [best0]
    split
    · exact ih (i + 1) i (by omega) (by omega)
    · exact ih (i + 1) c (by omega) hc
/-- The chosen one is nowhere behind. -/
def ahead (l : List S33) (c i : Nat) : Prop := (wk l i).f0 < (wk l c).f0 ∨ (wk l i).f0 = (wk l c).f0 ∧ (wk l i).f1 ≤ (wk l c).f1
theorem ahead_trans (l : List S33) (a b c : Nat) (h : ahead l a b) (h' : ahead l b c) : ahead l a c := by unfold ahead at *; omega
theorem best0_ahead (l : List S33) : ∀ (m i c : Nat), i + m = l.length → (∀ j, j < i → ahead l c j) → ∀ j, j < l.length → ahead l (best0 l m i c) j := by
  intro m; induction m with
  | zero => intro i c h hc j hj; exact hc j (by omega)
  | succ m ih =>
    intro i c h hc j hj
    simp only [best0]
    split
    · rename_i hb
      refine ih (i + 1) i (by omega) (fun q hq => ?_) j hj
      rcases Nat.lt_or_ge q i with z | z
      · refine ahead_trans l i c q ?_ (hc q z); unfold ahead; omega
      · have : q = i := by omega
        subst this; unfold ahead; omega
    · rename_i hb
      refine ih (i + 1) c (by omega) (fun q hq => ?_) j hj
      rcases Nat.lt_or_ge q i with z | z
      · exact hc q z
      · have : q = i := by omega
        subst this; unfold ahead; omega
/-- What a scan keeps: its best is a candidate, no candidate so far is sooner, and of those as soon none is faster. -/
def good (l : List S33) (c i : Nat) (st : Option (Nat × Int × Int)) : Prop :=
  match st with
  | none => ∀ j, j < i → ¬ cand l c j
  | some (nx, a, b) => nx < l.length ∧ cand l c nx ∧ a = (tm l nx c).1 ∧ b = (tm l nx c).2.1 ∧ ∀ j, j < i → cand l c j → a * (tm l j c).2.1 ≤ (tm l j c).1 * b ∧ (a * (tm l j c).2.1 = (tm l j c).1 * b → (wk l j).f1 ≤ (wk l nx).f1)
theorem mt_bd (l : List S33) (h : allk l) (c i : Nat) (hc : c < l.length) (hi : i < l.length) (k : (tm l i c).2.2 = true) : (0 ≤ (tm l i c).1 ∧ (tm l i c).1 ≤ 2000) ∧ (1 ≤ (tm l i c).2.1 ∧ (tm l i c).2.1 ≤ 200) :=
  meet_bd _ _ _ _ (h i hi) (h c hc) k
theorem scan_good (l : List S33) (h : allk l) (c : Nat) (hc : c < l.length) : ∀ (m i : Nat) (st : Option (Nat × Int × Int)), i + m = l.length → good l c i st → good l c l.length (scanL l c m i st) := by
  intro m; induction m with
  | zero => intro i st hi hg; simp only [Nat.add_zero] at hi; subst hi; cases st <;> exact hg
  | succ m ih =>
    intro i st hi hg
    cases st with
    | none =>
      simp only [scanL]
      by_cases k : cand l c i
      · rw [if_pos k]
        refine ih (i + 1) _ (by omega) ⟨by omega, k, rfl, rfl, fun j hj kj => ?_⟩
        rcases Nat.lt_or_ge j i with z | z
        · exact absurd kj (hg j z)
        · have : j = i := by omega
          subst this; exact ⟨Int.le_refl _, fun _ => Int.le_refl _⟩
      · rw [if_neg k]
        refine ih (i + 1) none (by omega) (fun j hj => ?_)
        rcases Nat.lt_or_ge j i with z | z
        · exact hg j z
        · have : j = i := by omega
          subst this; exact k
    | some st =>
      obtain ⟨nx, a, b⟩ := st
      obtain ⟨g1, g2, g3, g4, g5⟩ := hg
      have bn := mt_bd l h c nx hc g1 g2.2
      simp only [scanL]
      by_cases k : cand l c i ∧ ((tm l i c).1 * b < a * (tm l i c).2.1 ∨ (tm l i c).1 * b = a * (tm l i c).2.1 ∧ (wk l i).f1 > (wk l nx).f1)
      · rw [if_pos k]
        have bi := mt_bd l h c i hc (by omega) k.1.2
        refine ih (i + 1) _ (by omega) ⟨by omega, k.1, rfl, rfl, fun j hj kj => ?_⟩
        rcases Nat.lt_or_ge j i with z | z
        · have q := g5 j z kj
          have bj := mt_bd l h c j hc (by omega) kj.2
          have le := frac_trans (tm l i c).1 (tm l i c).2.1 a b (tm l j c).1 (tm l j c).2.1 (by omega) (by omega) (by omega) (by rcases k.2 with z | z <;> omega) q.1
          refine ⟨le, fun e => ?_⟩
          -- as soon as that: then as the elder best, which is no slower
          have r := frac_trans (tm l j c).1 (tm l j c).2.1 (tm l i c).1 (tm l i c).2.1 a b (by omega) (by omega) (by omega) (by omega) (by rcases k.2 with z | z <;> omega)
          have e2 := q.2 (by omega)
          have r2 := frac_trans a b (tm l j c).1 (tm l j c).2.1 (tm l i c).1 (tm l i c).2.1 (by omega) (by omega) (by omega) q.1 (by omega)
          rcases k.2 with z | z <;> omega
        · have : j = i := by omega
          subst this; exact ⟨Int.le_refl _, fun _ => Int.le_refl _⟩
      · rw [if_neg k]
        refine ih (i + 1) _ (by omega) ⟨g1, g2, g3, g4, fun j hj kj => ?_⟩
        rcases Nat.lt_or_ge j i with z | z
        · exact g5 j z kj
        · have : j = i := by omega
          subst this
          have n1 : ¬ ((tm l j c).1 * b < a * (tm l j c).2.1) := fun z => k ⟨kj, Or.inl z⟩
          refine ⟨by omega, fun e => ?_⟩
          rcases Int.lt_or_le (wk l nx).f1 (wk l j).f1 with z | z
          · exact absurd ⟨kj, Or.inr ⟨e.symm, z⟩⟩ k
          · exact z
/-- At the time num / den nobody is ahead of c, and of those beside it nobody is faster. -/
def inv (l : List S33) (c : Nat) (num den : Int) : Prop := ∀ i, i < l.length → (wk l i).f0 * den + (wk l i).f1 * num < (wk l c).f0 * den + (wk l c).f1 * num ∨ (wk l i).f0 * den + (wk l i).f1 * num = (wk l c).f0 * den + (wk l c).f1 * num ∧ (wk l i).f1 ≤ (wk l c).f1
theorem inv_start (l : List S33) (c : Nat) (h : ∀ j, j < l.length → ahead l c j) : inv l c 0 1 := by
  intro i hi
  have := h i hi
  unfold ahead at this
  simp only [Int.mul_one, Int.mul_zero, Int.add_zero]
  exact this
theorem inv_behind (l : List S33) (c : Nat) (num den : Int) (h0 : 0 ≤ num) (h1 : 1 ≤ den) (hv : inv l c num den) (i : Nat) (hi : i < l.length) (hs : (wk l i).f1 > (wk l c).f1) : ((wk l i).f1 - (wk l c).f1) * num < ((wk l c).f0 - (wk l i).f0) * den ∧ (wk l i).f0 < (wk l c).f0 := by
  have := hv i hi
  have e : ((wk l i).f1 - (wk l c).f1) * num < ((wk l c).f0 - (wk l i).f0) * den := by rw [Int.sub_mul, Int.sub_mul]; omega
  refine ⟨e, ?_⟩
  have p := Int.mul_nonneg (show 0 ≤ (wk l i).f1 - (wk l c).f1 by omega) h0
  rcases Int.lt_or_le (wk l i).f0 (wk l c).f0 with z | z
  · exact z
  · have := Int.mul_nonneg (show 0 ≤ (wk l i).f0 - (wk l c).f0 by omega) (show 0 ≤ den by omega)
    have e2 : ((wk l c).f0 - (wk l i).f0) * den = -(((wk l i).f0 - (wk l c).f0) * den) := by rw [Int.sub_mul, Int.sub_mul]; omega
    omega
theorem inv_later (l : List S33) (h : allk l) (c : Nat) (hc : c < l.length) (num den : Int) (h0 : 0 ≤ num) (h1 : 1 ≤ den) (hv : inv l c num den) (i : Nat) (hi : i < l.length) (k : cand l c i) : num * (tm l i c).2.1 < (tm l i c).1 * den := by
  obtain ⟨b1, b2⟩ := inv_behind l c num den h0 h1 hv i hi k.1
  have bd := mt_bd l h c i hc hi k.2
  have cr := (meet_cross (wk l i).f0 (wk l i).f1 (wk l c).f0 (wk l c).f1 k.2 (by omega)).1
  have e : (tm l i c).1 * ((wk l i).f1 - (wk l c).f1) = (tm l i c).2.1 * ((wk l c).f0 - (wk l i).f0) := cr
  have s0 : 0 < (wk l i).f1 - (wk l c).f1 := by have := k.1; omega
  have m := Int.mul_lt_mul_of_pos_left b1 (show 0 < (tm l i c).2.1 by omega)
  -- y (ds num) < y (dp den) = x ds den
  have m2 : ((wk l i).f1 - (wk l c).f1) * (num * (tm l i c).2.1) < ((wk l i).f1 - (wk l c).f1) * ((tm l i c).1 * den) := by
    have a1 : (tm l i c).2.1 * (((wk l i).f1 - (wk l c).f1) * num) = ((wk l i).f1 - (wk l c).f1) * (num * (tm l i c).2.1) := by rw [Int.mul_left_comm, Int.mul_comm (tm l i c).2.1 num]
    have a2 : (tm l i c).2.1 * (((wk l c).f0 - (wk l i).f0) * den) = ((wk l i).f1 - (wk l c).f1) * ((tm l i c).1 * den) := by rw [← Int.mul_assoc, ← e, Int.mul_comm (tm l i c).1, Int.mul_assoc]
    rw [← a1, ← a2]; exact m
  exact Int.lt_of_mul_lt_mul_left m2 (by omega)
theorem inv_step (l : List S33) (h : allk l) (c : Nat) (hc : c < l.length) (num den : Int) (h0 : 0 ≤ num) (h1 : 1 ≤ den) (hv : inv l c num den) (nx : Nat) (a b : Int) (hg : good l c l.length (some (nx, a, b))) : inv l nx a b := by
  obtain ⟨g1, g2, rfl, rfl, g5⟩ := hg
  have bn := mt_bd l h c nx hc g1 g2.2
  have later := inv_later l h c hc num den h0 h1 hv nx g1 g2
  have bh := inv_behind l c num den h0 h1 hv nx g1 g2.1
  have cr := (meet_cross (wk l nx).f0 (wk l nx).f1 (wk l c).f0 (wk l c).f1 g2.2 (by omega)).1
  have e : (tm l nx c).1 * ((wk l nx).f1 - (wk l c).f1) = (tm l nx c).2.1 * ((wk l c).f0 - (wk l nx).f0) := cr
  have eq : (wk l nx).f0 * (tm l nx c).2.1 + (wk l nx).f1 * (tm l nx c).1 = (wk l c).f0 * (tm l nx c).2.1 + (wk l c).f1 * (tm l nx c).1 := by
    rw [Int.mul_sub, Int.mul_sub, Int.mul_comm (tm l nx c).1, Int.mul_comm (tm l nx c).1, Int.mul_comm (tm l nx c).2.1, Int.mul_comm (tm l nx c).2.1] at e
    omega
  have sn := g2.1
  generalize (tm l nx c).1 = A at *
  generalize (tm l nx c).2.1 = B at *
  intro i hi
  rcases Int.lt_or_le (wk l c).f1 (wk l i).f1 with hs | hs
  · -- faster than c: met no sooner
    have bi := inv_behind l c num den h0 h1 hv i hi hs
    have ki : cand l c i := ⟨hs, meet_ok _ _ _ _ bi.2 hs⟩
    have q := g5 i hi ki
    have bd := mt_bd l h c i hc hi ki.2
    have cri := (meet_cross (wk l i).f0 (wk l i).f1 (wk l c).f0 (wk l c).f1 ki.2 (by omega)).1
    have ei : (tm l i c).1 * ((wk l i).f1 - (wk l c).f1) = (tm l i c).2.1 * ((wk l c).f0 - (wk l i).f0) := cri
    generalize (tm l i c).1 = X at *
    generalize (tm l i c).2.1 = Y at *
    have s0 : 0 < (wk l i).f1 - (wk l c).f1 := by omega
    generalize hd : (wk l i).f1 - (wk l c).f1 = D at *
    generalize hp : (wk l c).f0 - (wk l i).f0 = P at *
    -- D A ≤ P B, times Y
    have t1 : (D * A) * Y ≤ (P * B) * Y := by
      have z1 : (D * A) * Y = D * (A * Y) := Int.mul_assoc _ _ _
      have z2 : (P * B) * Y = D * (X * B) := by
        rw [Int.mul_right_comm, Int.mul_comm P Y, ← ei, Int.mul_comm X D, Int.mul_assoc]
      rw [z1, z2]
      exact Int.mul_le_mul_of_nonneg_left q.1 (by omega)
    have t2 : D * A ≤ P * B := Int.le_of_mul_le_mul_right t1 (by omega)
    have x1 : (wk l i).f1 * A - (wk l c).f1 * A = D * A := by rw [← Int.sub_mul, hd]
    have x2 : (wk l c).f0 * B - (wk l i).f0 * B = P * B := by rw [← Int.sub_mul, hp]
    by_cases te : D * A = P * B
    · right
      refine ⟨by omega, q.2 ?_⟩
      have z2 : (P * B) * Y = D * (X * B) := by
        rw [Int.mul_right_comm, Int.mul_comm P Y, ← ei, Int.mul_comm X D, Int.mul_assoc]
      rw [← te, Int.mul_assoc] at z2
      exact Int.eq_of_mul_eq_mul_left (by omega) z2
    · left; omega
  · -- not faster than c: behind it now, and later still
    have v := hv i hi
    generalize hd : (wk l c).f1 - (wk l i).f1 = D at *
    generalize hp : (wk l c).f0 - (wk l i).f0 = P at *
    have d0 : 0 ≤ D := by omega
    have x1 : (wk l c).f1 * num - (wk l i).f1 * num = D * num := by rw [← Int.sub_mul, hd]
    have x2 : (wk l c).f0 * den - (wk l i).f0 * den = P * den := by rw [← Int.sub_mul, hp]
    have x3 : (wk l c).f1 * A - (wk l i).f1 * A = D * A := by rw [← Int.sub_mul, hd]
    have x4 : (wk l c).f0 * B - (wk l i).f0 * B = P * B := by rw [← Int.sub_mul, hp]
    have t0 : 0 ≤ P * den + D * num := by omega
    have t1 : 0 ≤ (P * B + D * A) * den := by
      have y1 : D * (num * B) ≤ D * (A * den) := Int.mul_le_mul_of_nonneg_left (by omega) d0
      have y2 : 0 ≤ (P * den + D * num) * B := Int.mul_nonneg t0 (by omega)
      have y3 : (P * den + D * num) * B = P * B * den + D * (num * B) := by rw [Int.add_mul, Int.mul_right_comm, Int.mul_assoc D]
      have y4 : (P * B + D * A) * den = P * B * den + D * (A * den) := by rw [Int.add_mul, Int.mul_assoc D]
      omega
    have t2 : 0 ≤ P * B + D * A := by
      rcases Int.lt_or_le (P * B + D * A) 0 with z | z
      · have := Int.mul_neg_of_neg_of_pos z (show 0 < den by omega)
        omega
      · exact z
    rcases Int.lt_or_le 0 (P * B + D * A) with z | z
    · left; omega
    · right; exact ⟨by omega, by omega⟩
/-- How many are faster. -/
def fast (l : List S33) (s : Int) : Nat := (l.filter fun x => decide (s < x.f1)).length
theorem fast_lt (l : List S33) (s s' : Int) (h : s < s') (x : S33) (hx : x ∈ l) (hs : x.f1 = s') : fast l s' < fast l s := by
  unfold fast
  induction l with
  | nil => simp at hx
  | cons y ys ih =>
    have le : ∀ zs : List S33, (zs.filter fun x => decide (s' < x.f1)).length ≤ (zs.filter fun x => decide (s < x.f1)).length := by
      intro zs
      induction zs with
      | nil => simp
      | cons z zs ihz =>
        simp only [List.filter_cons]
        by_cases a : s' < z.f1 <;> by_cases b : s < z.f1 <;> simp [a, b] <;> omega
    rcases List.mem_cons.mp hx with e | e
    · subst e
      have := le ys
      simp only [List.filter_cons]
      rw [if_neg (by simp; omega), if_pos (by simp; omega)]
      simp only [List.length_cons]; omega
    · have := ih e
      have := le ys
      simp only [List.filter_cons]
      by_cases a : s' < y.f1 <;> by_cases b : s < y.f1 <;> simp [a, b] <;> omega
theorem fast_le (l : List S33) (s : Int) : fast l s ≤ l.length := by unfold fast; exact List.length_filter_le _ _
theorem wk_mem (l : List S33) (i : Nat) (h : i < l.length) : wk l i ∈ l := by unfold wk; simp [List.getD_eq_getElem?_getD, h]
theorem rdw (l : List S33) (i : Nat) : rd_T33 l (i : Int) = wk l i := rdS l i
theorem i_l0 (l : List S33) (hl : (l.length : Int) ≤ 8) (r : List Int) : ∀ (m i c : Nat), i + m = l.length → c < l.length → Ev (fun k => impl_leadersFrom.l1 k l ((best0 l m i c : Nat) : Int) [((best0 l m i c : Nat) : Int)]) r → Ev (fun k => impl_leadersFrom.l0 k l (c : Int) l (l.length : Int) (i : Int)) r := by
  intro m; induction m with
  | zero =>
    intro i c hi hc he
    refine Ev.step (fun k => ?_) he
    simp only [impl_leadersFrom.l0, best0]; rw [if_neg (by omega)]
  | succ m ih =>
    intro i c hi hc he
    simp only [best0] at he
    by_cases k : (wk l i).f0 > (wk l c).f0 ∨ (wk l i).f0 = (wk l c).f0 ∧ (wk l i).f1 > (wk l c).f1
    · rw [if_pos k] at he
      refine Ev.step (fun q => ?_) (ih (i + 1) i (by omega) (by omega) he)
      simp only [impl_leadersFrom.l0, rdw]
      rw [if_pos (by omega), if_pos (by omega), if_pos (by omega), if_pos (by omega), if_pos (by omega), w64 _ (by omega) (by omega), show ((i : Int) + 1) = ((i + 1 : Nat) : Int) by omega]
      rcases k with k | k
      · rw [if_pos k]
      · rw [if_neg (by omega), if_pos k.1, if_pos k.2]
    · rw [if_neg k] at he
      refine Ev.step (fun q => ?_) (ih (i + 1) c (by omega) hc he)
      simp only [impl_leadersFrom.l0, rdw]
      rw [if_pos (by omega), if_pos (by omega), if_pos (by omega), if_pos (by omega), if_pos (by omega), w64 _ (by omega) (by omega), show ((i : Int) + 1) = ((i + 1 : Nat) : Int) by omega]
      rw [if_neg (fun z => k (Or.inl z))]
      by_cases e : (wk l i).f0 = (wk l c).f0
      · rw [if_pos e, if_neg (fun z => k (Or.inr ⟨e, z⟩))]
      · rw [if_neg e]
theorem s_l0 (l : List S33) (hl : (l.length : Int) ≤ 8) (r : List Int × Bool) : ∀ (m i c : Nat), i + m = l.length → c < l.length → Ev (fun k => spec_LeadersOf.l1 k l ((best0 l m i c : Nat) : Int) [((best0 l m i c : Nat) : Int)] 0 1 0) r → Ev (fun k => spec_LeadersOf.l0 k l (c : Int) l (l.length : Int) (i : Int)) r := by
  intro m; induction m with
  | zero =>
    intro i c hi hc he
    refine Ev.step (fun k => ?_) he
    simp only [spec_LeadersOf.l0, best0]; rw [if_neg (by omega)]
  | succ m ih =>
    intro i c hi hc he
    simp only [best0] at he
    by_cases k : (wk l i).f0 > (wk l c).f0 ∨ (wk l i).f0 = (wk l c).f0 ∧ (wk l i).f1 > (wk l c).f1
    · rw [if_pos k] at he
      refine Ev.step (fun q => ?_) (ih (i + 1) i (by omega) (by omega) he)
      simp only [spec_LeadersOf.l0, rdw]
      rw [if_pos (by omega), if_pos (by omega), if_pos (by omega), if_pos (by omega), if_pos (by omega), w64 _ (by omega) (by omega), show ((i : Int) + 1) = ((i + 1 : Nat) : Int) by omega]
      rcases k with k | k
      · rw [if_pos k]
      · rw [if_neg (by omega), if_pos k.1, if_pos k.2]
    · rw [if_neg k] at he
      refine Ev.step (fun q => ?_) (ih (i + 1) c (by omega) hc he)
      simp only [spec_LeadersOf.l0, rdw]
      rw [if_pos (by omega), if_pos (by omega), if_pos (by omega), if_pos (by omega), if_pos (by omega), w64 _ (by omega) (by omega), show ((i : Int) + 1) = ((i + 1 : Nat) : Int) by omega]
      rw [if_neg (fun z => k (Or.inl z))]
      by_cases e : (wk l i).f0 = (wk l c).f0
      · rw [if_pos e, if_neg (fun z => k (Or.inr ⟨e, z⟩))]
      · rw [if_neg e]
/-- The state of a scan, as the two loops tell it: none is a next of -1, beside whatever numbers. -/
def isSt (st : Option (Nat × Int × Int)) (nx a b : Int) : Prop := match st with
  | none => nx = -1
  | some (n, x, y) => nx = (n : Int) ∧ a = x ∧ b = y
def stok (l : List S33) (st : Option (Nat × Int × Int)) : Prop := match st with
  | none => True
  | some (n, x, y) => n < l.length ∧ (0 ≤ x ∧ x ≤ 2000) ∧ 1 ≤ y ∧ y ≤ 200
theorem m4 (x y : Int) (hx : 0 ≤ x ∧ x ≤ 2000) (hy : 0 ≤ y ∧ y ≤ 200) : 0 ≤ x * y ∧ x * y ≤ 400000 := mul_bd x y 2000 200 hx.1 hx.2 hy.1 hy.2
theorem i_l2 (l : List S33) (h : allk l) (hl : (l.length : Int) ≤ 8) (c : Nat) (hc : c < l.length) (out : List Int) (ho : out.length ≤ 100) (r : List Int) : ∀ (m i : Nat) (st : Option (Nat × Int × Int)) (nx a b : Int), i + m = l.length → isSt st nx a b → stok l st →
    (match scanL l c m i st with | none => r = out | some (n, _, _) => Ev (fun k => impl_leadersFrom.l1 k l (n : Int) (out ++ [(n : Int)])) r) → Ev (fun k => impl_leadersFrom.l2 k l (c : Int) out nx a b l (l.length : Int) (i : Int)) r := by
  intro m; induction m with
  | zero =>
    intro i st nx a b hi hs hk he
    simp only [scanL] at he
    cases st with
    | none =>
      simp only [isSt] at hs
      subst hs
      refine Ev.step (f := fun _ => some r) (fun k => ?_) (Ev.now _)
      simp only [impl_leadersFrom.l2]; rw [if_neg (by omega), if_pos (by omega), he]
    | some st =>
      obtain ⟨n, x, y⟩ := st
      obtain ⟨rfl, rfl, rfl⟩ := hs
      refine Ev.step (fun k => ?_) he
      simp only [impl_leadersFrom.l2]; rw [if_neg (by omega), if_neg (by omega), if_pos (by omega)]
  | succ m ih =>
    intro i st nx a b hi hs hk he
    have gi := h i (by omega)
    have gc := h c hc
    have hstep : ∀ q, 10001 ≤ q → impl_leadersFrom.l2 (q + 1) l (c : Int) out nx a b l (l.length : Int) (i : Int) = (if (wk l i).f1 ≤ (wk l c).f1 then impl_leadersFrom.l2 q l (c : Int) out nx a b l (l.length : Int) ((i + 1 : Nat) : Int) else (if (tm l i c).2.2 = true then (if nx < 0 then (impl_leadersFrom.l2 q l (c : Int) out (i : Int) (tm l i c).1 (tm l i c).2.1 l (l.length : Int) ((i + 1 : Nat) : Int)) else (if (wrap64 ((wrap64 ((tm l i c).1 * b)) - (wrap64 (a * (tm l i c).2.1)))) < 0 then (impl_leadersFrom.l2 q l (c : Int) out (i : Int) (tm l i c).1 (tm l i c).2.1 l (l.length : Int) ((i + 1 : Nat) : Int)) else (if (wrap64 ((wrap64 ((tm l i c).1 * b)) - (wrap64 (a * (tm l i c).2.1)))) = 0 then (if 0 ≤ nx then (if nx < (l.length : Int) then (if (wk l i).f1 > (rd_T33 l nx).f1 then (impl_leadersFrom.l2 q l (c : Int) out (i : Int) (tm l i c).1 (tm l i c).2.1 l (l.length : Int) ((i + 1 : Nat) : Int)) else (impl_leadersFrom.l2 q l (c : Int) out nx a b l (l.length : Int) ((i + 1 : Nat) : Int))) else none) else none) else (impl_leadersFrom.l2 q l (c : Int) out nx a b l (l.length : Int) ((i + 1 : Nat) : Int))))) else (impl_leadersFrom.l2 q l (c : Int) out nx a b l (l.length : Int) ((i + 1 : Nat) : Int)))) := by
      intro q hq
      simp only [impl_leadersFrom.l2, rdw]
      rw [if_pos (by omega), if_pos (by omega), if_pos (by omega), if_pos (by omega), if_pos (by omega), e_meetingTime q _ _ _ _ gi gc (by omega), w64 ((i : Int) + 1) (by omega) (by omega), show ((i : Int) + 1) = ((i + 1 : Nat) : Int) by omega]
      rfl
    by_cases k : cand l c i
    · have bi := mt_bd l h c i hc (by omega) k.2
      have ns : ¬ (wk l i).f1 ≤ (wk l c).f1 := by have := k.1; omega
      cases st with
      | none =>
        simp only [isSt] at hs
        simp only [scanL] at he
        rw [if_pos k] at he
        refine evs 10001 (fun q hq => ?_) (ih (i + 1) (some (i, (tm l i c).1, (tm l i c).2.1)) (i : Int) (tm l i c).1 (tm l i c).2.1 (by omega) ⟨rfl, rfl, rfl⟩ ⟨by omega, bi.1, bi.2.1, bi.2.2⟩ he)
        rw [hstep q hq, if_neg ns, if_pos k.2, if_pos (by omega)]
      | some st =>
        obtain ⟨n, x, y⟩ := st
        obtain ⟨rfl, rfl, rfl⟩ := hs
        obtain ⟨k1, k2, k3, k4⟩ := hk
        have p1 := m4 (tm l i c).1 b bi.1 ⟨by omega, k4⟩
        have p2 := m4 a (tm l i c).2.1 k2 ⟨by omega, bi.2.2⟩
        simp only [scanL] at he
        by_cases k5 : (tm l i c).1 * b < a * (tm l i c).2.1 ∨ (tm l i c).1 * b = a * (tm l i c).2.1 ∧ (wk l i).f1 > (wk l n).f1
        · rw [if_pos ⟨k, k5⟩] at he
          refine evs 10001 (fun q hq => ?_) (ih (i + 1) (some (i, (tm l i c).1, (tm l i c).2.1)) (i : Int) (tm l i c).1 (tm l i c).2.1 (by omega) ⟨rfl, rfl, rfl⟩ ⟨by omega, bi.1, bi.2.1, bi.2.2⟩ he)
          rw [hstep q hq, if_neg ns, if_pos k.2, if_neg (by omega), w64 ((tm l i c).1 * b) (by omega) (by omega), w64 (a * _) (by omega) (by omega), w64 _ (by omega) (by omega)]
          rcases k5 with z | z
          · rw [if_pos (by omega)]
          · rw [if_neg (by omega), if_pos (by omega), if_pos (by omega), if_pos (by omega), rdw, if_pos z.2]
        · rw [if_neg (fun z => k5 z.2)] at he
          refine evs 10001 (fun q hq => ?_) (ih (i + 1) (some (n, a, b)) (n : Int) a b (by omega) ⟨rfl, rfl, rfl⟩ ⟨k1, k2, k3, k4⟩ he)
          rw [hstep q hq, if_neg ns, if_pos k.2, if_neg (by omega), w64 ((tm l i c).1 * b) (by omega) (by omega), w64 (a * _) (by omega) (by omega), w64 _ (by omega) (by omega), if_neg (fun z => k5 (Or.inl (by omega)))]
          by_cases e : (tm l i c).1 * b - a * (tm l i c).2.1 = 0
          · rw [if_pos e, if_pos (by omega), if_pos (by omega), rdw, if_neg (fun z => k5 (Or.inr ⟨by omega, z⟩))]
          · rw [if_neg e]
    · have he' : (match scanL l c m (i + 1) st with | none => r = out | some (n, _, _) => Ev (fun k => impl_leadersFrom.l1 k l (n : Int) (out ++ [(n : Int)])) r) := by
        cases st with
        | none => simp only [scanL] at he; rw [if_neg k] at he; exact he
        | some st => obtain ⟨n, x, y⟩ := st; simp only [scanL] at he; rw [if_neg (fun z => k z.1)] at he; exact he
      refine evs 10001 (fun q hq => ?_) (ih (i + 1) st nx a b (by omega) hs hk he')
      rw [hstep q hq]
      by_cases z : (wk l i).f1 ≤ (wk l c).f1
      · rw [if_pos z]
      · rw [if_neg z, if_neg (fun z2 => k ⟨by omega, z2⟩)]
theorem s_l2 (l : List S33) (h : allk l) (hl : (l.length : Int) ≤ 8) (c : Nat) (hc : c < l.length) (out : List Int) (ho : out.length ≤ 100) (num den : Int) (n0 : 0 ≤ num ∧ num ≤ 2000) (d1 : 1 ≤ den ∧ den ≤ 200) (hv : inv l c num den) (t : Nat) (ht : t ≤ 100) (r : List Int × Bool) : ∀ (m i : Nat) (st : Option (Nat × Int × Int)) (nx a b : Int), i + m = l.length → isSt st nx a b → stok l st →
    (match scanL l c m i st with | none => r = (out, true) | some (n, x, y) => Ev (fun k => spec_LeadersOf.l1 k l (n : Int) (out ++ [(n : Int)]) x y ((t + 1 : Nat) : Int)) r) → Ev (fun k => spec_LeadersOf.l2 k l (c : Int) out num den (t : Int) nx a b l (l.length : Int) (i : Int)) r := by
  intro m; induction m with
  | zero =>
    intro i st nx a b hi hs hk he
    simp only [scanL] at he
    cases st with
    | none =>
      simp only [isSt] at hs
      subst hs; subst he
      refine Ev.step (f := fun _ => some (out, true)) (fun k => ?_) (Ev.now _)
      simp only [spec_LeadersOf.l2]; rw [if_neg (by omega), if_pos (by omega)]
    | some st =>
      obtain ⟨n, x, y⟩ := st
      obtain ⟨rfl, rfl, rfl⟩ := hs
      refine Ev.step (fun k => ?_) he
      simp only [spec_LeadersOf.l2]; rw [if_neg (by omega), if_neg (by omega), if_pos (by omega), w64 _ (by omega) (by omega)]; rfl
  | succ m ih =>
    intro i st nx a b hi hs hk he
    have gi := h i (by omega)
    have gc := h c hc
    have hstep : ∀ q, 10001 ≤ q → spec_LeadersOf.l2 (q + 1) l (c : Int) out num den (t : Int) nx a b l (l.length : Int) (i : Int) = (if (wk l i).f1 ≤ (wk l c).f1 then spec_LeadersOf.j3 q l (c : Int) out num den (t : Int) nx a b (i : Int) (tm l i c).1 (tm l i c).2.1 l (l.length : Int) (i : Int) true (wk l i).f0 (wk l i).f1 else (if (tm l i c).2.2 = true then spec_LeadersOf.j3 q l (c : Int) out num den (t : Int) nx a b (i : Int) (tm l i c).1 (tm l i c).2.1 l (l.length : Int) (i : Int) (decide ((wrap64 ((tm l i c).1 * den)) < (wrap64 (num * (tm l i c).2.1)))) (wk l i).f0 (wk l i).f1 else spec_LeadersOf.j3 q l (c : Int) out num den (t : Int) nx a b (i : Int) (tm l i c).1 (tm l i c).2.1 l (l.length : Int) (i : Int) true (wk l i).f0 (wk l i).f1)) := by
      intro q hq
      simp only [spec_LeadersOf.l2, rdw]
      rw [if_pos (by omega), if_pos (by omega), if_pos (by omega), if_pos (by omega), if_pos (by omega), e_meMeet q _ _ _ _ gc gi (by omega), meet_sym]
      rfl
    have hskip : ∀ q x y p s, spec_LeadersOf.j3 (q + 1) l (c : Int) out num den (t : Int) nx a b (i : Int) x y l (l.length : Int) (i : Int) true p s = spec_LeadersOf.l2 q l (c : Int) out num den (t : Int) nx a b l (l.length : Int) ((i + 1 : Nat) : Int) := by
      intro q x y p s
      simp only [spec_LeadersOf.j3, if_true]
      rw [w64 ((i : Int) + 1) (by omega) (by omega), show ((i : Int) + 1) = ((i + 1 : Nat) : Int) by omega]
    by_cases k : cand l c i
    · have bi := mt_bd l h c i hc (by omega) k.2
      have ns : ¬ (wk l i).f1 ≤ (wk l c).f1 := by have := k.1; omega
      have later := inv_later l h c hc num den n0.1 d1.1 hv i (by omega) k
      have q1 := m4 (tm l i c).1 den bi.1 ⟨by omega, d1.2⟩
      have q2 := m4 num (tm l i c).2.1 n0 ⟨by omega, bi.2.2⟩
      have hno : decide ((wrap64 ((tm l i c).1 * den)) < (wrap64 (num * (tm l i c).2.1))) = false := by
        rw [w64 ((tm l i c).1 * den) (by omega) (by omega), w64 (num * _) (by omega) (by omega)]
        exact decide_eq_false (by omega)
      cases st with
      | none =>
        simp only [isSt] at hs
        simp only [scanL] at he
        rw [if_pos k] at he
        refine evs 10001 (f := fun q => spec_LeadersOf.j3 q l (c : Int) out num den (t : Int) nx a b (i : Int) (tm l i c).1 (tm l i c).2.1 l (l.length : Int) (i : Int) false (wk l i).f0 (wk l i).f1) (fun q hq => ?_) (Ev.step (fun q => ?_) (ih (i + 1) (some (i, (tm l i c).1, (tm l i c).2.1)) (i : Int) (tm l i c).1 (tm l i c).2.1 (by omega) ⟨rfl, rfl, rfl⟩ ⟨by omega, bi.1, bi.2.1, bi.2.2⟩ he))
        · rw [hstep q hq, if_neg ns, if_pos k.2, hno]
        · simp only [spec_LeadersOf.j3, Bool.false_eq_true, if_false]
          rw [if_pos (by omega), w64 ((i : Int) + 1) (by omega) (by omega), show ((i : Int) + 1) = ((i + 1 : Nat) : Int) by omega]
      | some st =>
        obtain ⟨n, x, y⟩ := st
        obtain ⟨rfl, rfl, rfl⟩ := hs
        obtain ⟨k1, k2, k3, k4⟩ := hk
        have p1 := m4 (tm l i c).1 b bi.1 ⟨by omega, k4⟩
        have p2 := m4 a (tm l i c).2.1 k2 ⟨by omega, bi.2.2⟩
        simp only [scanL] at he
        by_cases k5 : (tm l i c).1 * b < a * (tm l i c).2.1 ∨ (tm l i c).1 * b = a * (tm l i c).2.1 ∧ (wk l i).f1 > (wk l n).f1
        · rw [if_pos ⟨k, k5⟩] at he
          refine evs 10001 (f := fun q => spec_LeadersOf.j3 q l (c : Int) out num den (t : Int) (n : Int) a b (i : Int) (tm l i c).1 (tm l i c).2.1 l (l.length : Int) (i : Int) false (wk l i).f0 (wk l i).f1) (fun q hq => ?_) (Ev.step (fun q => ?_) (ih (i + 1) (some (i, (tm l i c).1, (tm l i c).2.1)) (i : Int) (tm l i c).1 (tm l i c).2.1 (by omega) ⟨rfl, rfl, rfl⟩ ⟨by omega, bi.1, bi.2.1, bi.2.2⟩ he))
          · rw [hstep q hq, if_neg ns, if_pos k.2, hno]
          · simp only [spec_LeadersOf.j3, Bool.false_eq_true, if_false]
            rw [if_neg (by omega), w64 ((tm l i c).1 * b) (by omega) (by omega), w64 (a * _) (by omega) (by omega), w64 ((i : Int) + 1) (by omega) (by omega), show ((i : Int) + 1) = ((i + 1 : Nat) : Int) by omega]
            rcases k5 with z | z
            · rw [if_pos z]
            · rw [if_neg (by omega), if_pos z.1, if_pos (by omega), if_pos (by omega), rdw, if_pos z.2]
        · rw [if_neg (fun z => k5 z.2)] at he
          refine evs 10001 (f := fun q => spec_LeadersOf.j3 q l (c : Int) out num den (t : Int) (n : Int) a b (i : Int) (tm l i c).1 (tm l i c).2.1 l (l.length : Int) (i : Int) false (wk l i).f0 (wk l i).f1) (fun q hq => ?_) (Ev.step (fun q => ?_) (ih (i + 1) (some (n, a, b)) (n : Int) a b (by omega) ⟨rfl, rfl, rfl⟩ ⟨k1, k2, k3, k4⟩ he))
          · rw [hstep q hq, if_neg ns, if_pos k.2, hno]
          · simp only [spec_LeadersOf.j3, Bool.false_eq_true, if_false]
            rw [if_neg (by omega), w64 ((tm l i c).1 * b) (by omega) (by omega), w64 (a * _) (by omega) (by omega), w64 ((i : Int) + 1) (by omega) (by omega), show ((i : Int) + 1) = ((i + 1 : Nat) : Int) by omega, if_neg (fun z => k5 (Or.inl z))]
            by_cases e : (tm l i c).1 * b = a * (tm l i c).2.1
            · rw [if_pos e, if_pos (by omega), if_pos (by omega), rdw, if_neg (fun z => k5 (Or.inr ⟨e, z⟩))]
            · rw [if_neg e]
    · have he' : (match scanL l c m (i + 1) st with | none => r = (out, true) | some (n, x, y) => Ev (fun k => spec_LeadersOf.l1 k l (n : Int) (out ++ [(n : Int)]) x y ((t + 1 : Nat) : Int)) r) := by
        cases st with
        | none => simp only [scanL] at he; rw [if_neg k] at he; exact he
        | some st => obtain ⟨n, x, y⟩ := st; simp only [scanL] at he; rw [if_neg (fun z => k z.1)] at he; exact he
      refine evs 10001 (f := fun q => spec_LeadersOf.j3 q l (c : Int) out num den (t : Int) nx a b (i : Int) (tm l i c).1 (tm l i c).2.1 l (l.length : Int) (i : Int) true (wk l i).f0 (wk l i).f1) (fun q hq => ?_) (Ev.step (fun q => hskip q _ _ _ _) (ih (i + 1) st nx a b (by omega) hs hk he'))
      rw [hstep q hq]
      by_cases z : (wk l i).f1 ≤ (wk l c).f1
      · rw [if_pos z]
      · rw [if_neg z, if_neg (fun z2 => k ⟨by omega, z2⟩)]
/-- The leaders from one on: the same in both, each one faster than the one before, the last one as fast as anybody. -/
theorem lead_from (l : List S33) (h : allk l) (hl : (l.length : Int) ≤ 8) : ∀ (M c : Nat), c < l.length → fast l (wk l c).f1 ≤ M → ∀ (out : List Int) (num den : Int) (t : Nat), out.length ≤ 100 - M → (0 ≤ num ∧ num ≤ 2000) → (1 ≤ den ∧ den ≤ 200) → inv l c num den → t + M ≤ l.length → M ≤ 8 →
    ∃ q : List Nat, (q.length ≤ M ∧ ∀ x ∈ q, x < l.length) ∧ Ev (fun k => impl_leadersFrom.l1 k l (c : Int) out) (out ++ q.map (fun x : Nat => (x : Int))) ∧ Ev (fun k => spec_LeadersOf.l1 k l (c : Int) out num den (t : Int)) (out ++ q.map (fun x : Nat => (x : Int)), true) ∧ List.Pairwise (fun x y => (wk l x).f1 < (wk l y).f1) (c :: q) ∧ ∀ i, i < l.length → (wk l i).f1 ≤ (wk l ((c :: q).getLast (by simp))).f1 := by
  intro M
  induction M with
  | zero =>
    intro c hc hf out num den t ho hn hd hv ht hM
    have none_fast : ∀ i, i < l.length → (wk l i).f1 ≤ (wk l c).f1 := by
      intro i hi
      rcases Int.lt_or_le (wk l c).f1 (wk l i).f1 with z | z
      · have := fast_lt l (wk l c).f1 (wk l i).f1 z (wk l i) (wk_mem l i hi) rfl; omega
      · exact z
    have hg := scan_good l h c hc l.length 0 none (by omega) (by intro j hj; omega)
    have hsc : scanL l c l.length 0 none = none := by
      cases e : scanL l c l.length 0 none with
      | none => rfl
      | some st =>
        obtain ⟨n, x, y⟩ := st
        rw [e] at hg
        have := none_fast n hg.1
        have := hg.2.1.1
        omega
    refine ⟨[], by simp, ?_, ?_, by simp, by simpa using none_fast⟩
    · refine Ev.step (fun k => ?_) (i_l2 l h hl c hc out (by omega) _ l.length 0 none (-1) 0 0 (by omega) rfl trivial (by rw [hsc]; simp))
      simp only [impl_leadersFrom.l1]; rfl
    · refine Ev.step (fun k => ?_) (s_l2 l h hl c hc out (by omega) num den hn hd hv t (by omega) _ l.length 0 none (-1) 0 1 (by omega) rfl trivial (by rw [hsc]; simp))
      simp only [spec_LeadersOf.l1]
      rw [w64 _ (by omega) (by omega), if_pos (by omega)]; rfl
  | succ M ih =>
    intro c hc hf out num den t ho hn hd hv ht hM
    have hg := scan_good l h c hc l.length 0 none (by omega) (by intro j hj; omega)
    cases e : scanL l c l.length 0 none with
    | none =>
      rw [e] at hg
      have none_fast : ∀ i, i < l.length → (wk l i).f1 ≤ (wk l c).f1 := by
        intro i hi
        rcases Int.lt_or_le (wk l c).f1 (wk l i).f1 with z | z
        · have b := inv_behind l c num den hn.1 hd.1 hv i hi z
          exact absurd ⟨z, meet_ok _ _ _ _ b.2 z⟩ (hg i hi)
        · exact z
      refine ⟨[], by simp, ?_, ?_, by simp, by simpa using none_fast⟩
      · refine Ev.step (fun k => ?_) (i_l2 l h hl c hc out (by omega) _ l.length 0 none (-1) 0 0 (by omega) rfl trivial (by rw [e]; simp))
        simp only [impl_leadersFrom.l1]; rfl
      · refine Ev.step (fun k => ?_) (s_l2 l h hl c hc out (by omega) num den hn hd hv t (by omega) _ l.length 0 none (-1) 0 1 (by omega) rfl trivial (by rw [e]; simp))
        simp only [spec_LeadersOf.l1]
        rw [w64 _ (by omega) (by omega), if_pos (by omega)]; rfl
    | some st =>
      obtain ⟨n, x, y⟩ := st
      rw [e] at hg
      have hv2 := inv_step l h c hc num den hn.1 hd.1 hv n x y hg
      have bn := mt_bd l h c n hc hg.1 hg.2.1.2
      obtain ⟨g1, g2, rfl, rfl, g5⟩ := hg
      have fl := fast_lt l (wk l c).f1 (wk l n).f1 g2.1 (wk l n) (wk_mem l n g1) rfl
      obtain ⟨q, q0, q1, q2, q3, q4⟩ := ih n g1 (by omega) (out ++ [(n : Int)]) (tm l n c).1 (tm l n c).2.1 (t + 1) (by simp; omega) bn.1 bn.2 hv2 (by omega) (by omega)
      refine ⟨n :: q, ⟨by have := q0.1; simp only [List.length_cons]; omega, ?_⟩, ?_, ?_, ?_, ?_⟩
      · intro z hz
        rcases List.mem_cons.mp hz with e | e
        · omega
        · exact q0.2 z e
      · refine Ev.step (fun k => ?_) (i_l2 l h hl c hc out (by omega) _ l.length 0 none (-1) 0 0 (by omega) rfl trivial (by rw [e]; simpa using q1))
        simp only [impl_leadersFrom.l1]; rfl
      · refine Ev.step (fun k => ?_) (s_l2 l h hl c hc out (by omega) num den hn hd hv t (by omega) _ l.length 0 none (-1) 0 1 (by omega) rfl trivial (by rw [e]; simpa using q2))
        simp only [spec_LeadersOf.l1]
        rw [w64 _ (by omega) (by omega), if_pos (by omega)]; rfl
      · refine List.Pairwise.cons (fun z hz => ?_) q3
        rcases List.mem_cons.mp hz with e | e
        · subst e; exact g2.1
        · have := List.rel_of_pairwise_cons q3 e
          have := g2.1; omega
      · intro i hi
        have := q4 i hi
        rw [List.getLast_cons (by simp)]; exact this
theorem lead_all (l : List S33) (hl : (l.length : Int) ≤ 1048576) : ∃ v : List Int × Bool, v.1.length ≤ 9 ∧ ∃ K, ∀ k, K ≤ k → impl_LeadersOf.f k l = some v ∧ spec_LeadersOf.f k l = some v := by
  by_cases hw : ws l
  · have ha : allk l := fun i hi => hw.2 _ (wk_mem l i hi)
    have h0 : 0 < l.length := by have := hw.1; omega
    have h8 : l.length ≤ 8 := by have := hw.1; omega
    have hb := best0_lt l l.length 0 0 (by omega) h0
    have hah := best0_ahead l l.length 0 0 (by omega) (by intro j hj; omega)
    have hv := inv_start l _ hah
    have hf := fast_le l (wk l (best0 l l.length 0 0)).f1
    obtain ⟨q, q0, q1, q2, q3, q4⟩ := lead_from l ha hw.1.2 l.length (best0 l l.length 0 0) hb hf [((best0 l l.length 0 0 : Nat) : Int)] 0 1 0 (by simp; omega) (by omega) (by omega) hv (by omega) (by omega)
    obtain ⟨K1, k1⟩ := i_l0 l hw.1.2 _ l.length 0 0 (by omega) h0 q1
    obtain ⟨K2, k2⟩ := s_l0 l hw.1.2 _ l.length 0 0 (by omega) h0 q2
    refine ⟨([((best0 l l.length 0 0 : Nat) : Int)] ++ q.map (fun x : Nat => (x : Int)), true), by have := q0.1; simp; omega, K1 + K2 + 10000000, fun k hk => ⟨?_, ?_⟩⟩
    · unfold impl_LeadersOf.f impl_leadersFrom.f
      rw [e_AreWalkers l (by omega)]
      simp only [decide_eq_true hw, Option.bind_some, if_true]
      have e := k1 k (by omega)
      simp only [Int.natCast_zero, Int.ofNat_zero] at e
      simp only [e, Option.bind_some]
    · unfold spec_LeadersOf.f
      rw [e_meAll k l (by omega) (by omega)]
      simp only [decide_eq_true hw, Option.bind_some, if_true]
      have e := k2 k (by omega)
      rw [show ((0 : Nat) : Int) = 0 from rfl] at e
      exact e
  · refine ⟨([], false), by simp, 10000000, fun k hk => ⟨?_, ?_⟩⟩
    · unfold impl_LeadersOf.f
      rw [e_AreWalkers l (by omega)]
      simp [hw]
    · unfold spec_LeadersOf.f
      rw [e_meAll k l (by omega) (by omega)]
      simp [hw]
theorem e_markWalkerS_l0 : ∀ (n i k : Nat) (l : List S33) (c : Int), l.length ≤ 1048576 → i + n = l.length → 0 ≤ c → c ≤ 1 + 2 * i → n < k → ∃ m, laws_markWalkerS.l0 k l c (i : Int) = some (c + 2 * n, m) := by
  intro n; induction n with
  | zero =>
    intro i k l c hl hi hc hc2 hk
    obtain ⟨k, rfl⟩ : ∃ m, k = m + 1 := ⟨k - 1, by omega⟩
    simp only [laws_markWalkerS.l0]
    rw [if_neg (by omega)]
    exact ⟨l, by simp⟩
  | succ n ih =>
    intro i k l c hl hi hc hc2 hk
    obtain ⟨k, rfl⟩ : ∃ m, k = m + 1 := ⟨k - 1, by omega⟩
    simp only [laws_markWalkerS.l0]
    rw [if_pos (by omega), if_pos (by omega)]
    simp only [Option.bind_some]
    rw [w64 (c + 1) (by omega) (by omega), w64 (c + 1 + 1) (by omega) (by omega), w64 ((i : Int) + 1) (by omega) (by omega), show ((i : Int) + 1) = ((i + 1 : Nat) : Int) by omega]
    obtain ⟨m, hm⟩ := ih (i + 1) k ((l.set ((i : Int)).toNat ⟨c, (rd_T33 l (i : Int)).f1⟩).set ((i : Int)).toNat ⟨(rd_T33 (l.set ((i : Int)).toNat ⟨c, (rd_T33 l (i : Int)).f1⟩) (i : Int)).f0, c + 1⟩) (c + 1 + 1) (by rw [List.length_set, List.length_set]; exact hl) (by rw [List.length_set, List.length_set]; omega) (by omega) (by omega) (by omega)
    exact ⟨m, by rw [hm]; congr 2; omega⟩
theorem e_markWalkerS (k : Nat) (l : List S33) (hl : l.length ≤ 1048576) (hk : l.length < k) : ∃ m, laws_markWalkerS.f k l 1 = some (1 + 2 * (l.length : Int), m) := by
  unfold laws_markWalkerS.f
  exact e_markWalkerS_l0 l.length 0 k l 1 hl (by omega) (by omega) (by omega) hk

theorem FnExactLeadersOf : ∀ (l0 : List S30), l0.length ≤ maxLen → (∀ x ∈ l0, (Lit.int .i64 x.f0).wf = true ∧ (Lit.int .i64 x.f1).wf = true) → ∃ k, laws_FnExactLeadersOf.f k l0 = some true := by
  intro l hm _
  by_cases h : (l.length : Int) > 1048576
  · refine ⟨100000000, ?_⟩
    unfold laws_FnExactLeadersOf.f
    rw [e_szWalkerS l hm]
    simp only [Option.bind_some]
    rw [if_pos h]; rfl
  · have h2 : ¬ ((1048576 : Int) - (l.length : Int) < 0) := by omega
    obtain ⟨v, hvl, K, hK⟩ := lead_all (l.map toI) (by simp; omega)
    have hlen : (l.map toI).length ≤ 1048576 := by simp; omega
    obtain ⟨N, hN1, hN2⟩ : ∃ N, K ≤ N ∧ 99999997 ≤ N := ⟨max K 99999997, by omega, by omega⟩
    refine ⟨N + 3, ?_⟩
    unfold laws_FnExactLeadersOf.f
    rw [e_szWalkerS l hm]
    simp only [Option.bind_some]
    rw [if_neg h, if_neg h2]
    have ht : ∀ k, 2000000 < k → laws_toWalkerS.f k l = some (l.map toI) := fun k hk => e_toWalkerS k l (by omega) (by omega)
    have hq : ∀ k, 2000000 < k → laws_eqWalkerS.f k (l.map toI) (l.map toI) = some true := fun k hk => e_eqWalkerS k _ (by omega) (by omega)
    have hmw : ∀ k, 2000000 < k → ∃ m, laws_markWalkerS.f k (l.map toI) 1 = some (1 + 2 * ((l.map toI).length : Int), m) := fun k hk => e_markWalkerS k _ (by omega) (by omega)
    have hvq : ∀ k, 2000000 < k → laws_eqIntS.f k v.1 v.1 = some true := fun k hk => e_eqIntS k _ (by omega) (by omega)
    have hmk : ∀ k, 2000000 < k → laws_markIntS.f k v.1 1 = some (1 + (v.1.length : Int), markL v.1 1 v.1.length 0) := fun k hk => e_markIntS k _ (by omega) (by omega)
    have hhd : ∀ k, 2000000 < k → laws_heldIntS.f k (markL v.1 1 v.1.length 0) 1 = some (1 + (v.1.length : Int)) := fun k hk => e_heldIntS k _ (by omega) (by omega)
    generalize l.map toI = s at *
    obtain ⟨mw, hmw⟩ := hmw (N + 2) (by omega)
    have e1 : ¬ ((1 : Int) + 2 * (s.length : Int) < 0) := by omega
    have e2 : ¬ ((1 : Int) + (v.1.length : Int) < 0) := by omega
    simp only [ht (N + 3) (by omega), (hK (N + 3) (by omega)).1, (hK (N + 3) (by omega)).2, hvq (N + 3) (by omega), Option.bind_some, if_true, bne_self_eq_false]
    simp only [laws_FnExactLeadersOf.j0, ht (N + 2) (by omega), hq (N + 2) (by omega), hmw, hvq (N + 2) (by omega), Option.bind_some, if_true, bne_self_eq_false, Bool.false_eq_true, if_false]
    simp only [laws_FnExactLeadersOf.j1, laws_FnExactLeadersOf.j2, ht (N + 1) (by omega), (hK (N + 1) (by omega)).1, hmk (N + 1) (by omega), hhd (N + 1) (by omega), hhd (N) (by omega), hvq (N + 1) (by omega), Option.bind_some, if_true, bne_self_eq_false, Bool.false_eq_true, if_false]
    simp [e1, e2]

end Go.Proofs.Ytfeabflbgendbaa.Pure
