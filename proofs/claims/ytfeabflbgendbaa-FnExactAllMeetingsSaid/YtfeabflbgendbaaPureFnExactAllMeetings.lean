/- The pure statement of the law FnExactAllMeetings: what the program's function computes is what the reference's computes. -/
import Derived.Test.YtfeabflbgendbaaMeetLaw
namespace Go.Proofs.Ytfeabflbgendbaa.Pure
open Go.RowKit Go.Proofs.Ytfeabflbgendbaa.OFnExactAllMeetings Go.Proofs.YtfeabflbgendbaaW.PrintWords Go.Proofs.YtfeabflbgendbaaW.PrintLast Go.Proofs.YtfeabflbgendbaaW.PrintMore
set_option linter.unusedVariables false
set_option linter.unusedSimpArgs false
theorem w64 (n : Int) (h1 : -9223372036854775808 ≤ n) (h2 : n ≤ 9223372036854775807) : wrap64 n = n := by unfold wrap64; omega
theorem dec_and (p q : Prop) [Decidable p] [Decidable q] [Decidable (p ∧ q)] : (if p then some (decide q) else some false) = some (decide (p ∧ q)) := by
  by_cases h : p <;> by_cases h' : q <;> simp [h, h']
theorem le_cases (a b c : Int) : (if a ≥ b then some (decide (a ≤ c)) else some false) = some (decide (b ≤ a ∧ a ≤ c)) := by
  by_cases h : b ≤ a <;> by_cases h' : a ≤ c <;> simp [h, h']
def gd (u d : Int) : Prop := 1 ≤ u ∧ u ≤ 1000 ∧ 0 ≤ d ∧ d ≤ 1000
instance (u d : Int) : Decidable (gd u d) := by unfold gd; infer_instance
def gk (p s : Int) : Prop := -1000 ≤ p ∧ p ≤ 1000 ∧ -100 ≤ s ∧ s ≤ 100
instance (p s : Int) : Decidable (gk p s) := by unfold gk; infer_instance
def gw (w : Int) : Prop := 1 ≤ w ∧ w ≤ 1000000
instance (w : Int) : Decidable (gw w) := by unfold gw; infer_instance
def reach (u d day : Int) : Int := if u ≤ d then u else u + (day - 1) * (u - d)
def dayH (u d h : Int) : Int := if h ≤ u then 1 else if u ≤ d then 0 else 1 + (h - u + (u - d) - 1) / (u - d)
theorem mul_bd (a b A B : Int) (h1 : 0 ≤ a) (h2 : a ≤ A) (h3 : 0 ≤ b) (h4 : b ≤ B) : 0 ≤ a * b ∧ a * b ≤ A * B :=
  ⟨Int.mul_nonneg h1 h3, Int.mul_le_mul h2 h4 h3 (by omega)⟩
theorem reach_bd (u d day : Int) (g : gd u d) (w : gw day) : u ≤ reach u d day ∧ reach u d day ≤ 1000000000 := by
  unfold gd at g; unfold gw at w; unfold reach
  split
  · omega
  · have := mul_bd (day - 1) (u - d) 999999 1000 (by omega) (by omega) (by omega) (by omega)
    omega
theorem div_bd (x g : Int) (hg : 1 ≤ g) (hx : 0 ≤ x) : 0 ≤ x / g ∧ x / g ≤ x :=
  ⟨Int.ediv_nonneg hx (by omega), Int.ediv_le_self _ hx⟩
theorem dayH_bd (u d h : Int) (g : gd u d) (hh : h ≤ 1000000) : 0 ≤ dayH u d h ∧ dayH u d h ≤ 1001000 := by
  unfold gd at g; unfold dayH
  split
  · omega
  · split
    · omega
    · have := div_bd (h - u + (u - d) - 1) (u - d) (by omega) (by omega)
      omega
theorem ceil_le (x g n : Int) (hg : 1 ≤ g) : (x + g - 1) / g ≤ n ↔ x ≤ n * g := by
  have h : (x + g - 1) / g < n + 1 ↔ x + g - 1 < (n + 1) * g := Int.ediv_lt_iff_lt_mul (by omega)
  have e : (n + 1) * g = n * g + g := by rw [Int.add_mul, Int.one_mul]
  rw [e] at h
  constructor
  · intro k; have := h.mp (by omega); omega
  · intro k; have := h.mpr (by omega); omega
/-- The day is reached at the end of a day just if that day is not before it. -/
theorem dayH_le (u d h day : Int) (hd : 1 ≤ day) : (0 < dayH u d h ∧ dayH u d h ≤ day) ↔ h ≤ reach u d day := by
  unfold dayH reach
  by_cases h1 : h ≤ u
  · rw [if_pos h1]
    split
    · omega
    · have := Int.mul_nonneg (show 0 ≤ day - 1 by omega) (show 0 ≤ u - d by omega)
      omega
  · rw [if_neg h1]
    by_cases h2 : u ≤ d
    · rw [if_pos h2, if_pos h2]; omega
    · rw [if_neg h2, if_neg h2]
      have a := Int.ediv_nonneg (show 0 ≤ h - u + (u - d) - 1 by omega) (show 0 ≤ u - d by omega)
      have c := ceil_le (h - u) (u - d) (day - 1) (by omega)
      constructor
      · rintro ⟨_, k⟩; have := c.mp (by omega); omega
      · intro k; have := c.mpr (by omega); omega
def daysV (u d w : Int) : Int × Bool := if gd u d ∧ gw w then (dayH u d w, decide (0 < dayH u d w)) else (0, false)
def greatV (u d w : Int) : Int × Bool := if gd u d ∧ gw w then (reach u d w, true) else (0, false)
def evenV (u d w day : Int) : Int × Bool := if (gd u d ∧ gw w) ∧ gw day then (min w (reach u d day), true) else (0, false)
def mornV (u d w day : Int) : Int × Bool := if (gd u d ∧ gw w) ∧ gw day then (if day = 1 then 0 else if min w (reach u d (day - 1)) = w then w else max 0 (min w (reach u d (day - 1)) - d), true) else (0, false)
def mornI (u d w day : Int) : Int := if day = 1 then 0 else if min w (reach u d (day - 1)) = w then w else max 0 (min w (reach u d (day - 1)) - d)
def dayV (u d w h : Int) : Int × Bool := if (gd u d ∧ gw w) ∧ 0 ≤ h ∧ h ≤ w then (dayH u d h, decide (0 < dayH u d h)) else (0, false)
def leadV (u d u' d' w day : Int) : Int × Bool := if ((gd u d ∧ gw w) ∧ gd u' d') ∧ gw day then (min w (reach u d day) - min w (reach u' d' day), true) else (0, false)
def upL (P : Int → Bool) : Nat → Int → Int × Bool
  | 0, _ => (0, false)
  | n + 1, up => if P up = true then (up, true) else upL P n (up + 1)
def slowP (w days d up : Int) : Bool := decide (w ≤ reach up d days)
def slowV (w days d : Int) : Int × Bool := if (gw w ∧ gw days) ∧ 0 ≤ d ∧ d ≤ 1000 then upL (slowP w days d) 1000 1 else (0, false)
def downL (P : Int → Bool) : Nat → Int → Int × Bool
  | 0, _ => (0, false)
  | n + 1, x => if P x = true then (x, true) else downL P n (x - 1)
def mostP (w days u x : Int) : Bool := decide (w ≤ reach u x days)
def mostV (w days u : Int) : Int × Bool := if (gw w ∧ gw days) ∧ 1 ≤ u ∧ u ≤ 1000 then downL (mostP w days u) 1001 1000 else (0, false)
theorem e_within (a b c : Int) : impl_within.f a b c = some (decide (b ≤ a ∧ a ≤ c)) := by
  unfold impl_within.f; exact le_cases a b c
theorem e_l1In (a b c : Int) : spec_l1In.f a b c = some (decide (b ≤ a ∧ a ≤ c)) := by
  unfold spec_l1In.f; exact le_cases a b c
theorem e_toWalker (u d : Int) : laws_toWalker.f u d = some (u, d) := rfl
theorem e_iIsWalker (u d : Int) : impl_IsWalker.f u d = some (decide (gk u d)) := by
  unfold impl_IsWalker.f; simp only [e_within, Option.bind_some]
  by_cases h : -1000 ≤ u ∧ u ≤ 1000 <;> by_cases h' : -100 ≤ d ∧ d ≤ 100 <;> simp [gk, h, h'] <;> omega
theorem e_meGood (u d : Int) : spec_meGood.f u d = some (decide (gk u d)) := by
  unfold spec_meGood.f; simp only [e_l1In, Option.bind_some]
  by_cases h : -1000 ≤ u ∧ u ≤ 1000 <;> by_cases h' : -100 ≤ d ∧ d ≤ 100 <;> simp [gk, h, h'] <;> omega
theorem e_l1Most (a b : Int) : spec_l1Most.f a b = some (max a b) := by
  unfold spec_l1Most.f; split <;> (congr 1; omega)
theorem uniq (a b q r : Int) (hb : 0 < b) (e : b * q + r = a) (h0 : 0 ≤ r) (h1 : r < b) : a / b = q ∧ a % b = r :=
  (Int.ediv_emod_unique hb).mpr ⟨by rw [← e]; exact Int.add_comm _ _, h0, h1⟩
theorem tm_bd (a b : Int) (hb : 0 < b) : b * a.tdiv b + a.tmod b = a ∧ -b < a.tmod b ∧ a.tmod b < b :=
  ⟨Int.mul_tdiv_add_tmod a b, Int.lt_tmod_of_pos a hb, Int.tmod_lt_of_pos a hb⟩
theorem floor_is (a b : Int) (hb : 0 < b) : (if a.tmod b < 0 then a.tdiv b - 1 else a.tdiv b) = a / b := by
  obtain ⟨e, h0, h1⟩ := tm_bd a b hb
  split
  · have := uniq a b (a.tdiv b - 1) (a.tmod b + b) hb (by rw [Int.mul_sub]; omega) (by omega) (by omega)
    exact this.1.symm
  · have := uniq a b (a.tdiv b) (a.tmod b) hb e (by omega) h1
    exact this.1.symm
theorem mod_is (a b : Int) (hb : 0 < b) : (a.tmod b + b).tmod b = a % b := by
  obtain ⟨e, h0, h1⟩ := tm_bd a b hb
  rw [Int.tmod_eq_emod_of_nonneg (by omega), Int.add_emod_right]
  have h := Int.add_mul_emod_self_left (a.tmod b) b (a.tdiv b)
  rw [Int.add_comm, e] at h
  exact h.symm
theorem abs_mx (a : Int) : mx a (-a) = (a.natAbs : Int) := by unfold mx; split <;> omega
theorem gcd_pos (num den : Int) (h : den ≠ 0) : 0 < (Int.gcd num den : Int) := by
  have : 0 < Int.gcd num den := Int.gcd_pos_of_ne_zero_right _ h
  omega
theorem tdiv_ex (a g : Int) (h : g ∣ a) : a.tdiv g = a / g := Int.tdiv_eq_ediv_of_dvd h
def gt (a b : Int) : Prop := 0 ≤ a ∧ a ≤ 1000000 ∧ 1 ≤ b ∧ b ≤ 1000
instance (a b : Int) : Decidable (gt a b) := by unfold gt; infer_instance
def gr (a : Int) : Prop := 1 ≤ a ∧ a ≤ 1000
instance (a : Int) : Decidable (gr a) := by unfold gr; infer_instance
def lowN (num den : Int) : Int := (if den < 0 then -num else num) / (Int.gcd num den : Int)
def lowD (num den : Int) : Int := (if den < 0 then -den else den) / (Int.gcd num den : Int)
def placeV (p s num den : Int) : Int := p * den + s * num
def wpV (p s num den : Int) : Int × Int × Bool := if gk p s ∧ gt num den then (lowN (placeV p s num den) den, lowD (placeV p s num den) den, true) else (0, 0, false)
def gapV (p s p' s' num den : Int) : Int := ((placeV p s num den - placeV p' s' num den).natAbs : Int)
def gaV (p s p' s' num den : Int) : Int × Int × Bool := if (gk p s ∧ gk p' s') ∧ gt num den then (lowN (gapV p s p' s' num den) den, lowD (gapV p s p' s' num den) den, true) else (0, 0, false)
def meetV (p s p' s' : Int) : Int × Int × Bool := if p = p' then (0, 1, true) else if s = s' then (0, 0, false) else if lowN (p' - p) (s - s') < 0 then (0, 0, false) else (lowN (p' - p) (s - s'), lowD (p' - p) (s - s'), true)
def mtV (p s p' s' : Int) : Int × Int × Bool := if gk p s ∧ gk p' s' then meetV p s p' s' else (0, 0, false)
def mpV (p s p' s' : Int) : Int × Int × Bool := if (gk p s ∧ gk p' s') ∧ (meetV p s p' s').2.2 = true then (lowN (placeV p s (meetV p s p' s').1 (meetV p s p' s').2.1) (meetV p s p' s').2.1, lowD (placeV p s (meetV p s p' s').1 (meetV p s p' s').2.1) (meetV p s p' s').2.1, true) else (0, 0, false)
def ringV (a p s p' s' : Int) : Int × Int := if s < s' then ((p - p') % a, s' - s) else ((p' - p) % a, s - s')
def ringV' (a p s p' s' : Int) : Int × Int := if s < s' then ((p - p') % a, s' - s) else ((p' - p) % a, s - s')
def rgV (a p s p' s' : Int) : Int × Int × Bool := if ((gr a ∧ gk p s) ∧ gk p' s') ∧ ¬ s = s' then (lowN a ((s - s').natAbs : Int), lowD a ((s - s').natAbs : Int), true) else (0, 0, false)
def crV (a p s p' s' t : Int) : Int × Bool := if (((gr a ∧ gk p s) ∧ gk p' s') ∧ ¬ s = s') ∧ 0 ≤ t ∧ t ≤ 1000 then (if t * (ringV a p s p' s').2 < (ringV a p s p' s').1 then 0 else (t * (ringV a p s p' s').2 - (ringV a p s p' s').1) / a + 1, true) else (0, false)
theorem div_abs (a g : Int) (hg : 1 ≤ g) (B : Int) (h : -B ≤ a ∧ a ≤ B) : -B ≤ a / g ∧ a / g ≤ B := by
  constructor
  · have : -B ≤ a / g ↔ -B * g ≤ a := Int.le_ediv_iff_mul_le (by omega)
    refine this.mpr ?_
    have hB : 0 ≤ B := by omega
    have := Int.mul_le_mul_of_nonneg_left hg hB
    rw [Int.neg_mul]; omega
  · rcases Int.lt_or_le a 0 with h' | h'
    · have : a / g < 0 ↔ a < 0 * g := Int.ediv_lt_iff_lt_mul (by omega)
      have := this.mpr (by omega)
      omega
    · have := Int.ediv_le_self g h'
      omega
theorem low_bd (num den B : Int) (hd : den ≠ 0) (h1 : -B ≤ num ∧ num ≤ B) (h2 : -B ≤ den ∧ den ≤ B) : (-B ≤ lowN num den ∧ lowN num den ≤ B) ∧ (1 ≤ lowD num den ∧ lowD num den ≤ B) := by
  have hg := gcd_pos num den hd
  refine ⟨?_, ?_⟩
  · unfold lowN; exact div_abs _ _ (by omega) B (by split <;> omega)
  · have h := div_abs (if den < 0 then -den else den) (Int.gcd num den : Int) (by omega) B (by split <;> omega)
    unfold lowD
    refine ⟨?_, h.2⟩
    have hd' : (Int.gcd num den : Int) ∣ (if den < 0 then -den else den) := by
      split
      · exact Int.dvd_neg.mpr (Int.gcd_dvd_right ..)
      · exact Int.gcd_dvd_right ..
    have hp : 0 < (if den < 0 then -den else den) := by split <;> omega
    have := Int.ediv_pos_of_pos_of_dvd hp (by omega) hd'
    omega
theorem lowN_neg (num den : Int) (hd : den ≠ 0) : lowN num den < 0 ↔ (if den < 0 then -num else num) < 0 := by
  have hg := gcd_pos num den hd
  unfold lowN
  have : (if den < 0 then -num else num) / (Int.gcd num den : Int) < 0 ↔ (if den < 0 then -num else num) < 0 * (Int.gcd num den : Int) := Int.ediv_lt_iff_lt_mul (by omega)
  rw [Int.zero_mul] at this
  exact this
theorem ediv_min (a g : Int) (h : g ∣ a) (hg : g ≠ 0) : -a / g = -(a / g) := Int.neg_ediv_of_dvd h
theorem abs_mul (a b A B : Int) (h1 : -A ≤ a ∧ a ≤ A) (h2 : 0 ≤ b ∧ b ≤ B) : -(A * B) ≤ a * b ∧ a * b ≤ A * B := by
  have hA : 0 ≤ A := by omega
  have t : A * b ≤ A * B := Int.mul_le_mul_of_nonneg_left h2.2 hA
  have t1 : a * b ≤ A * b := Int.mul_le_mul_of_nonneg_right h1.2 h2.1
  have t2 : -A * b ≤ a * b := Int.mul_le_mul_of_nonneg_right h1.1 h2.1
  rw [Int.neg_mul] at t2
  omega
theorem e_absOf (a : Int) (h1 : -9000000000000000000 ≤ a) (h2 : a ≤ 9000000000000000000) : impl_absOf.f a = some (a.natAbs : Int) := by
  unfold impl_absOf.f; rw [w64 (-a) (by omega) (by omega), abs_mx]
theorem e_l1Most' (a b : Int) : spec_l1Most.f a b = some (max a b) := by
  unfold spec_l1Most.f; split <;> (congr 1; omega)
theorem e_l1Abs (a : Int) (h1 : -9000000000000000000 ≤ a) (h2 : a ≤ 9000000000000000000) : spec_l1Abs.f a = some (a.natAbs : Int) := by
  unfold spec_l1Abs.f; rw [w64 (-a) (by omega) (by omega), e_l1Most']; simp only [Option.bind_some]; congr 1; omega
theorem e_div_l0 : ∀ (b a : Nat) (k : Nat), b < k → impl_divisorOf.l0 k (a : Int) (b : Int) = some ((Nat.gcd a b : Nat) : Int) := by
  intro b
  induction b using Nat.strongRecOn with
  | ind b ih =>
    intro a k hk
    obtain ⟨k, rfl⟩ : ∃ m, k = m + 1 := ⟨k - 1, by omega⟩
    simp only [impl_divisorOf.l0]
    by_cases h : b = 0
    · subst h; simp
    · have hm := Nat.mod_lt a (show b > 0 by omega)
      rw [if_pos (by omega), if_neg (by omega), Int.tmod_eq_emod_of_nonneg (by omega), ← Int.natCast_emod, ih (a % b) hm b k (by omega)]
      congr 2
      rw [Nat.gcd_comm a b, Nat.gcd_rec b a, Nat.gcd_comm]
theorem e_divisorOf (k : Nat) (a b : Int) (ha : 0 ≤ a) (hb : 0 ≤ b) (hk : b < k) : impl_divisorOf.f k a b = some (Int.gcd a b : Int) := by
  unfold impl_divisorOf.f
  have := e_div_l0 b.natAbs a.natAbs k (by omega)
  rw [show ((a.natAbs : Nat) : Int) = a by omega, show ((b.natAbs : Nat) : Int) = b by omega] at this
  exact this
theorem e_lowest (k : Nat) (num den B : Int) (hd : den ≠ 0) (hB : B ≤ 4000000000000000000) (h1 : -B ≤ num ∧ num ≤ B) (h2 : -B ≤ den ∧ den ≤ B) (hk : B < k) : impl_lowest.f k num den = some (lowN num den, lowD num den) := by
  have hb := low_bd num den B hd h1 h2
  have hg := gcd_pos num den hd
  have d1 : (Int.gcd num den : Int) ∣ num := Int.gcd_dvd_left ..
  have d2 : (Int.gcd num den : Int) ∣ den := Int.gcd_dvd_right ..
  unfold impl_lowest.f
  by_cases c : den < 0
  · rw [if_pos c, w64 (-num) (by omega) (by omega), w64 (-den) (by omega) (by omega), e_absOf _ (by omega) (by omega)]
    simp only [Option.bind_some]
    rw [e_divisorOf k _ _ (by omega) (by omega) (by omega)]
    have e : Int.gcd (-den) (((-num).natAbs : Nat) : Int) = Int.gcd num den := by
      rw [Int.gcd_comm num den]; simp [Int.gcd]
    simp only [Option.bind_some]
    rw [e, if_neg (by omega), tdiv_ex _ _ (Int.dvd_neg.mpr d1), tdiv_ex _ _ (Int.dvd_neg.mpr d2)]
    unfold lowN lowD at hb ⊢
    rw [if_pos c, if_pos c] at hb
    rw [if_pos c, if_pos c, w64 _ (by omega) (by omega), w64 _ (by omega) (by omega)]
  · rw [if_neg c, e_absOf _ (by omega) (by omega)]
    simp only [Option.bind_some]
    rw [e_divisorOf k _ _ (by omega) (by omega) (by omega)]
    have e : Int.gcd den ((num.natAbs : Nat) : Int) = Int.gcd num den := by
      rw [Int.gcd_comm num den]; simp [Int.gcd]
    simp only [Option.bind_some]
    rw [e, if_neg (by omega), tdiv_ex _ _ d1, tdiv_ex _ _ d2]
    unfold lowN lowD at hb ⊢
    rw [if_neg c, if_neg c] at hb
    rw [if_neg c, if_neg c, w64 _ (by omega) (by omega), w64 _ (by omega) (by omega)]
theorem e_meLow_l0 (x y : Int) (B : Int) (hB : B ≤ 4000000000000000000) (h1 : -B ≤ x ∧ x ≤ B) (h2 : 1 ≤ y ∧ y ≤ B) : ∀ (b a : Nat) (k : Nat), b < k → (Nat.gcd a b) = Int.gcd x y → spec_meLow.l0 k x y (a : Int) (b : Int) = some (x / (Int.gcd x y : Int), y / (Int.gcd x y : Int)) := by
  intro b
  induction b using Nat.strongRecOn with
  | ind b ih =>
    intro a k hk hg
    obtain ⟨k, rfl⟩ : ∃ m, k = m + 1 := ⟨k - 1, by omega⟩
    simp only [spec_meLow.l0]
    by_cases h : b = 0
    · subst h
      have hp := gcd_pos x y (by omega)
      have d1 : (Int.gcd x y : Int) ∣ x := Int.gcd_dvd_left ..
      have d2 : (Int.gcd x y : Int) ∣ y := Int.gcd_dvd_right ..
      have b1 := div_abs x (Int.gcd x y : Int) (by omega) B h1
      have b2 := div_abs y (Int.gcd x y : Int) (by omega) B (by omega)
      rw [Nat.gcd_zero_right] at hg
      subst hg
      rw [if_neg (by omega), if_neg (by omega), tdiv_ex _ _ d1, tdiv_ex _ _ d2, w64 _ (by omega) (by omega), w64 _ (by omega) (by omega)]
    · have hm := Nat.mod_lt a (show b > 0 by omega)
      rw [if_pos (by omega), if_neg (by omega), Int.tmod_eq_emod_of_nonneg (by omega), ← Int.natCast_emod]
      refine ih (a % b) hm b k (by omega) ?_
      rw [← hg, Nat.gcd_comm a b, Nat.gcd_rec b a, Nat.gcd_comm]
theorem e_meLow (k : Nat) (num den B : Int) (hd : den ≠ 0) (hB : B ≤ 4000000000000000000) (h1 : -B ≤ num ∧ num ≤ B) (h2 : -B ≤ den ∧ den ≤ B) (hk : B + 1 < k) : spec_meLow.f k num den = some (lowN num den, lowD num den) := by
  obtain ⟨k, rfl⟩ : ∃ m, k = m + 1 := ⟨k - 1, by omega⟩
  unfold spec_meLow.f lowN lowD
  by_cases c : den < 0
  · rw [if_pos c, if_pos c, if_pos c, w64 (-num) (by omega) (by omega), w64 (-den) (by omega) (by omega)]
    simp only [spec_meLow.j0]
    rw [e_l1Abs _ (by omega) (by omega)]
    simp only [Option.bind_some]
    have := e_meLow_l0 (-num) (-den) B hB (by omega) (by omega) (-den).natAbs (-num).natAbs k (by omega) rfl
    rw [show (((-den).natAbs : Nat) : Int) = -den by omega] at this
    rw [this]; simp [Int.gcd]
  · rw [if_neg c, if_neg c, if_neg c]
    simp only [spec_meLow.j0]
    rw [e_l1Abs _ (by omega) (by omega)]
    simp only [Option.bind_some]
    have := e_meLow_l0 num den B hB (by omega) (by omega) den.natAbs num.natAbs k (by omega) rfl
    rw [show ((den.natAbs : Nat) : Int) = den by omega] at this
    rw [this]
theorem e_meetingTime (k : Nat) (p s p' s' : Int) (g : gk p s) (g' : gk p' s') (hk : 10000 < k) : impl_meetingTime.f k p s p' s' = some (meetV p s p' s') := by
  unfold gk at g g'; unfold impl_meetingTime.f meetV
  by_cases h : p = p'
  · rw [if_pos h, if_pos h]
  · by_cases h2 : s = s'
    · rw [if_neg h, if_neg h, if_pos h2, if_pos h2]
    · rw [if_neg h, if_neg h, if_neg h2, if_neg h2, w64 _ (by omega) (by omega), w64 _ (by omega) (by omega), e_lowest k _ _ 2000 (by omega) (by omega) (by omega) (by omega) (by omega)]
      simp only [Option.bind_some]
      split <;> rfl
theorem e_meMeet (k : Nat) (p s p' s' : Int) (g : gk p s) (g' : gk p' s') (hk : 10000 < k) : spec_meMeet.f k p s p' s' = some (meetV p s p' s') := by
  unfold gk at g g'; unfold spec_meMeet.f meetV
  rw [w64 (p' - p) (by omega) (by omega), w64 (s - s') (by omega) (by omega)]
  by_cases h : p = p'
  · rw [if_pos (by omega), if_pos h]
  · by_cases h2 : s = s'
    · rw [if_neg (by omega), if_neg h, if_pos (by omega), if_pos h2]
    · have hn := lowN_neg (p' - p) (s - s') (by omega)
      rw [if_neg (by omega), if_neg h, if_neg (by omega), if_neg h2]
      by_cases c : lowN (p' - p) (s - s') < 0
      · have := hn.mp c
        rw [if_pos c, if_pos]
        by_cases a : p' - p > 0 <;> by_cases b : s - s' > 0 <;> simp [a, b] <;> (split at this <;> omega)
      · have := fun z => c (hn.mpr z)
        rw [if_neg c, if_neg, e_meLow k _ _ 2000 (by omega) (by omega) (by omega) (by omega) (by omega)]
        · rfl
        · by_cases a : p' - p > 0 <;> by_cases b : s - s' > 0 <;> simp [a, b] <;> (split at this <;> omega)
theorem meet_bd (p s p' s' : Int) (g : gk p s) (g' : gk p' s') (h : (meetV p s p' s').2.2 = true) : (0 ≤ (meetV p s p' s').1 ∧ (meetV p s p' s').1 ≤ 2000) ∧ (1 ≤ (meetV p s p' s').2.1 ∧ (meetV p s p' s').2.1 ≤ 200) := by
  unfold gk at g g'; unfold meetV at h ⊢
  by_cases c : p = p'
  · rw [if_pos c]; simp
  · by_cases c2 : s = s'
    · rw [if_neg c, if_pos c2] at h; simp at h
    · by_cases c3 : lowN (p' - p) (s - s') < 0
      · rw [if_neg c, if_neg c2, if_pos c3] at h; simp at h
      · rw [if_neg c, if_neg c2, if_neg c3]
        have b := low_bd (p' - p) (s - s') 2000 (by omega) (by omega) (by omega)
        have hd : lowD (p' - p) (s - s') ≤ 200 := by
          have hg := gcd_pos (p' - p) (s - s') (by omega)
          have := div_abs (if s - s' < 0 then -(s - s') else s - s') (Int.gcd (p' - p) (s - s') : Int) (by omega) 200 (by split <;> omega)
          unfold lowD; exact this.2
        simp only; omega
theorem rdn (l : List Int) (i : Nat) : rd l (i : Int) = l.getD i 0 := by simp [rd]
theorem drop_cons (l : List Int) (i : Nat) (h : i < l.length) : l.drop i = l.getD i 0 :: l.drop (i + 1) := by
  rw [List.drop_eq_getElem_cons h]; simp [List.getD_eq_getElem?_getD, h]
theorem getD_mem (l : List Int) (i : Nat) (h : i < l.length) : l.getD i 0 ∈ l := by
  simp [List.getD_eq_getElem?_getD, h]
theorem round1 {k n : Nat} (h : n < k) : ∃ m, k = m + 1 ∧ n ≤ m := ⟨k - 1, by omega, by omega⟩
def gs (up : Int) (s : List Int) : Prop := (1 ≤ up ∧ up ≤ 1000) ∧ (1 ≤ (s.length : Int) ∧ (s.length : Int) ≤ 12) ∧ ∀ x ∈ s, 0 ≤ x ∧ x ≤ 1000
instance (up : Int) (s : List Int) : Decidable (gs up s) := by unfold gs; infer_instance
/-- The slip of the night behind day j + 1. -/
def sl (s : List Int) (j : Nat) : Int := s.getD (j % s.length) 0
theorem sl_bd (up : Int) (s : List Int) (g : gs up s) (j : Nat) : 0 ≤ sl s j ∧ sl s j ≤ 1000 := by
  obtain ⟨_, h, ha⟩ := g
  exact ha _ (getD_mem s _ (Nat.mod_lt _ (by omega)))
theorem tmod_nat (j n : Nat) : Int.tmod (j : Int) (n : Int) = ((j % n : Nat) : Int) := by
  rw [Int.tmod_eq_emod_of_nonneg (by omega), Int.natCast_emod]
/-- How far it comes at most: rounds left, day, height in the morning, most so far. -/
def gsL (up : Int) (s : List Int) : Nat → Nat → Int → Int → Int
  | 0, _, _, most => most
  | n + 1, j, m, most => gsL up s n (j + 1) (max 0 (m + up - sl s j)) (max most (m + up))
def gwsV (up : Int) (s : List Int) (days : Int) : Int × Bool := if gs up s ∧ gw days then (gsL up s days.toNat 0 0 0, true) else (0, false)
theorem e_eqIntS_l0 (l : List Int) (hl : (l.length : Int) ≤ 9000000000000000000) : ∀ (n i k : Nat), i + n = l.length → n < k → laws_eqIntS.l0 k l l (i : Int) = some true := by
  intro n
  induction n with
  | zero =>
    intro i k hi hk
    obtain ⟨k, rfl, hk⟩ := round1 hk
    simp only [laws_eqIntS.l0]; rw [if_neg (by omega)]
  | succ n ih =>
    intro i k hi hk
    obtain ⟨k, rfl, hk⟩ := round1 hk
    simp only [laws_eqIntS.l0]
    rw [if_pos (by omega), if_pos (by omega), if_pos (by omega), if_true, w64 _ (by omega) (by omega), show ((i : Int) + 1) = ((i + 1 : Nat) : Int) by omega]
    exact ih (i + 1) k (by omega) (by omega)
theorem e_eqIntS (k : Nat) (l : List Int) (hl : (l.length : Int) ≤ 9000000000000000000) (hk : l.length < k) : laws_eqIntS.f k l l = some true := by
  unfold laws_eqIntS.f; rw [if_pos rfl]; exact e_eqIntS_l0 l hl l.length 0 k (by omega) hk
def markL (l : List Int) (c : Int) : Nat → Nat → List Int
  | 0, _ => l
  | n + 1, i => markL (l.set i c) (c + 1) n (i + 1)
theorem markL_length : ∀ (n i : Nat) (l : List Int) (c : Int), (markL l c n i).length = l.length := by
  intro n; induction n with
  | zero => intro i l c; rfl
  | succ n ih => intro i l c; simp [markL, ih]
theorem markL_below : ∀ (n i : Nat) (l : List Int) (c : Int) (j : Nat), j < i → (markL l c n i).getD j 0 = l.getD j 0 := by
  intro n; induction n with
  | zero => intro i l c j h; rfl
  | succ n ih =>
    intro i l c j h
    simp only [markL]; rw [ih (i + 1) _ _ j (by omega)]
    simp only [List.getD_eq_getElem?_getD]; rw [List.getElem?_set_ne (by omega)]
theorem markL_at : ∀ (n i : Nat) (l : List Int) (c : Int) (j : Nat), i + n = l.length → i ≤ j → j < l.length → (markL l c n i).getD j 0 = c + (j - i : Nat) := by
  intro n; induction n with
  | zero => intro i l c j h h1 h2; omega
  | succ n ih =>
    intro i l c j h h1 h2
    simp only [markL]
    rcases Nat.lt_or_ge i j with h3 | h3
    · rw [ih (i + 1) _ _ j (by simp; omega) (by omega) (by simpa using h2)]; omega
    · have e : j = i := by omega
      subst e
      rw [markL_below n (j + 1) _ _ j (by omega)]
      simp [List.getD_eq_getElem?_getD, h2]
theorem e_markIntS_l0 : ∀ (n i k : Nat) (l : List Int) (c : Int), (l.length : Int) ≤ 4000000000000000000 → i + n = l.length → 0 ≤ c → c ≤ 1 + i → n < k → laws_markIntS.l0 k l c (i : Int) = some (c + n, markL l c n i) := by
  intro n
  induction n with
  | zero =>
    intro i k l c hl hi h0 h1 hk
    obtain ⟨k, rfl, hk⟩ := round1 hk
    simp only [laws_markIntS.l0, markL]; rw [if_neg (by omega)]; simp
  | succ n ih =>
    intro i k l c hl hi h0 h1 hk
    obtain ⟨k, rfl, hk⟩ := round1 hk
    simp only [laws_markIntS.l0, markL]
    rw [if_pos (by omega), if_pos (by omega), w64 (c + 1) (by omega) (by omega), w64 _ (by omega) (by omega), show ((i : Int)).toNat = i by omega, show ((i : Int) + 1) = ((i + 1 : Nat) : Int) by omega]
    rw [ih (i + 1) k (l.set i c) (c + 1) (by simpa using hl) (by simp; omega) (by omega) (by omega) (by omega)]
    congr 2; omega
theorem e_markIntS (k : Nat) (l : List Int) (hl : (l.length : Int) ≤ 4000000000000000000) (hk : l.length < k) : laws_markIntS.f k l 1 = some (1 + (l.length : Int), markL l 1 l.length 0) := by
  unfold laws_markIntS.f; exact e_markIntS_l0 l.length 0 k l 1 hl (by omega) (by omega) (by omega) hk
theorem e_heldIntS_l0 (l : List Int) (hl : (l.length : Int) ≤ 4000000000000000000) (h : ∀ j, j < l.length → l.getD j 0 = 1 + j) : ∀ (n i k : Nat) (c : Int), i + n = l.length → c = 1 + i → n < k → laws_heldIntS.l0 k l c (i : Int) = some (c + n) := by
  intro n
  induction n with
  | zero =>
    intro i k c hi hc hk
    obtain ⟨k, rfl, hk⟩ := round1 hk
    simp only [laws_heldIntS.l0]; rw [if_neg (by omega)]; simp
  | succ n ih =>
    intro i k c hi hc hk
    obtain ⟨k, rfl, hk⟩ := round1 hk
    simp only [laws_heldIntS.l0]
    have := h i (by omega)
    rw [if_pos (by omega), if_pos (by omega), rdn, this, if_pos (by omega), w64 (c + 1) (by omega) (by omega), w64 _ (by omega) (by omega), show ((i : Int) + 1) = ((i + 1 : Nat) : Int) by omega]
    rw [ih (i + 1) k (c + 1) (by omega) (by omega) (by omega)]
    congr 1; omega
theorem e_heldIntS (k : Nat) (l : List Int) (hl : (l.length : Int) ≤ 4000000000000000000) (hk : l.length < k) : laws_heldIntS.f k (markL l 1 l.length 0) 1 = some (1 + (l.length : Int)) := by
  unfold laws_heldIntS.f
  have e := markL_length l.length 0 l 1
  have := e_heldIntS_l0 (markL l 1 l.length 0) (by rw [e]; exact hl) (fun j hj => by rw [e] at hj; have := markL_at l.length 0 l 1 j (by omega) (by omega) hj; rw [this]; omega) (markL l 1 l.length 0).length 0 k 1 (by omega) (by omega) (by omega)
  rw [e] at this; exact this
/-- How high it is in the morning before day j + 1, if there is no top. -/
def mor (up : Int) (s : List Int) : Nat → Int
  | 0 => 0
  | j + 1 => max 0 (mor up s j + up - sl s j)
theorem mor_bd (up : Int) (s : List Int) (g : gs up s) : ∀ j : Nat, 0 ≤ mor up s j ∧ mor up s j ≤ j * 1000 := by
  intro j
  induction j with
  | zero => simp [mor]
  | succ j ih =>
    have hs := sl_bd up s g j
    have g1 := g.1
    simp only [mor]
    omega
theorem sl_per (s : List Int) (j : Nat) : sl s (j + s.length) = sl s j := by unfold sl; rw [Nat.add_mod_right]
theorem mor_step (up : Int) (s : List Int) (a : Nat) (h : mor up s (a + s.length) ≤ mor up s a) : ∀ t, mor up s (a + t + s.length) ≤ mor up s (a + t) := by
  intro t
  induction t with
  | zero => exact h
  | succ t ih =>
    have e : a + (t + 1) + s.length = (a + t + s.length) + 1 := by omega
    rw [e, show a + (t + 1) = (a + t) + 1 by omega]
    simp only [mor]
    rw [sl_per s (a + t)]
    omega
theorem mor_never (up w : Int) (s : List Int) (hs : 1 ≤ s.length) (a : Nat) (h : mor up s (a + s.length) ≤ mor up s a) (hb : ∀ i, i < a + s.length → mor up s i + up < w) : ∀ j, mor up s j + up < w := by
  intro j
  induction j using Nat.strongRecOn with
  | ind j ih =>
    rcases Nat.lt_or_ge j (a + s.length) with h1 | h1
    · exact hb j h1
    · have := mor_step up s a h (j - s.length - a)
      rw [show a + (j - s.length - a) + s.length = j by omega, show a + (j - s.length - a) = j - s.length by omega] at this
      have := ih (j - s.length) (by omega)
      omega
/-- What the day of the top is: the first one, or that there is none. -/
def DS (up : Int) (s : List Int) (w : Int) (r : Int × Bool) : Prop :=
  (∃ j : Nat, r = ((j : Int) + 1, true) ∧ mor up s j + up ≥ w ∧ ∀ i, i < j → mor up s i + up < w) ∨ (r = (0, false) ∧ ∀ j, mor up s j + up < w)
theorem DS_one (up : Int) (s : List Int) (w : Int) (r r' : Int × Bool) (h : DS up s w r) (h' : DS up s w r') : r = r' := by
  rcases h with ⟨j, e, a, b⟩ | ⟨e, a⟩ <;> rcases h' with ⟨j', e', a', b'⟩ | ⟨e', a'⟩
  · rcases Nat.lt_trichotomy j j' with h | h | h
    · have := b' j h; omega
    · rw [e, e', h]
    · have := b j' h; omega
  · have := a' j; omega
  · have := a j'; omega
  · rw [e, e']
def toI (x : S30) : S33 := ⟨x.f0, x.f1⟩
theorem getD_map_toI (l : List S30) (i : Nat) (h : i < l.length) : (l.map toI).getD i z33 = toI (l.getD i z30) := by
  simp [List.getD_eq_getElem?_getD, h]
theorem set_take_dropS (l m : List S33) (i : Nat) (h : i < l.length) (h' : i < m.length) : (l.take i ++ m.drop i).set i (l.getD i z33) = l.take (i + 1) ++ m.drop (i + 1) := by
  have hl : (l.take i).length = i := by simp; omega
  rw [List.set_append_right _ _ (by omega), hl, Nat.sub_self, List.drop_eq_getElem_cons h', List.set_cons_zero, List.take_succ_eq_append_getElem h, List.append_assoc]
  simp [List.getD_eq_getElem?_getD, h]
theorem e_toWalkerS_l0 (l : List S30) (hl : (l.length : Int) ≤ 9000000000000000000) : ∀ (n i k : Nat), i + n = l.length → n < k → laws_toWalkerS.l0 k l ((l.map toI).take i ++ (List.replicate l.length z33).drop i) (i : Int) = some (l.map toI) := by
  intro n
  induction n with
  | zero =>
    intro i k hi hk
    obtain ⟨k, rfl, hk⟩ := round1 hk
    simp only [laws_toWalkerS.l0]
    rw [if_neg (by omega), List.take_of_length_le (by simp; omega), List.drop_eq_nil_of_le (by simp; omega), List.append_nil]
  | succ n ih =>
    intro i k hi hk
    obtain ⟨k, rfl, hk⟩ := round1 hk
    simp only [laws_toWalkerS.l0, e_toWalker, Option.bind_some]
    rw [if_pos (by omega), if_pos (by omega), if_pos (by simp; omega), w64 _ (by omega) (by omega), show ((i : Int)).toNat = i by omega, show ((i : Int) + 1) = ((i + 1 : Nat) : Int) by omega]
    have e : (⟨(rd_T30 l (i : Int)).f0, (rd_T30 l (i : Int)).f1⟩ : S33) = (l.map toI).getD i z33 := by
      rw [getD_map_toI l i (by omega)]; unfold rd_T30 toI; rw [show ((i : Int)).toNat = i by omega]
    rw [e, set_take_dropS _ _ i (by simp; omega) (by simp; omega)]
    exact ih (i + 1) k (by omega) (by omega)
theorem e_toWalkerS (k : Nat) (l : List S30) (hl : l.length ≤ 1048576) (hk : l.length < k) : laws_toWalkerS.f k l = some (l.map toI) := by
  unfold laws_toWalkerS.f
  rw [if_pos (by omega), if_pos (by omega)]
  have := e_toWalkerS_l0 l (by omega) l.length 0 k (by omega) hk
  simpa using this
theorem e_szWalkerS (l : List S30) (hm : l.length ≤ maxLen) : laws_szWalkerS.f l 1048576 = some (if (l.length : Int) > 1048576 then -1 else 1048576 - (l.length : Int)) := by
  unfold maxLen at hm
  unfold laws_szWalkerS.f
  rw [w64 _ (by omega) (by omega)]
  split <;> split <;> first | rfl | omega
theorem e_eqWalker (a b : Int) : laws_eqWalker.f a b a b = some true := by
  unfold laws_eqWalker.f; simp
theorem e_eqWalkerS_l0 (l : List S33) (hl : (l.length : Int) ≤ 9000000000000000000) : ∀ (n i k : Nat), i + n = l.length → n < k → laws_eqWalkerS.l0 k l l (i : Int) = some true := by
  intro n
  induction n with
  | zero =>
    intro i k hi hk
    obtain ⟨k, rfl, hk⟩ := round1 hk
    simp only [laws_eqWalkerS.l0]; rw [if_neg (by omega)]
  | succ n ih =>
    intro i k hi hk
    obtain ⟨k, rfl, hk⟩ := round1 hk
    simp only [laws_eqWalkerS.l0, e_eqWalker, Option.bind_some]
    rw [if_pos (by omega), if_pos (by omega), if_pos (by omega), if_true, w64 _ (by omega) (by omega), show ((i : Int) + 1) = ((i + 1 : Nat) : Int) by omega]
    exact ih (i + 1) k (by omega) (by omega)
theorem e_eqWalkerS (k : Nat) (l : List S33) (hl : (l.length : Int) ≤ 9000000000000000000) (hk : l.length < k) : laws_eqWalkerS.f k l l = some true := by
  unfold laws_eqWalkerS.f; rw [if_pos rfl]; exact e_eqWalkerS_l0 l hl l.length 0 k (by omega) hk
def ws (l : List S33) : Prop := (1 ≤ (l.length : Int) ∧ (l.length : Int) ≤ 8) ∧ ∀ x ∈ l, gk x.f0 x.f1
instance (l : List S33) : Decidable (ws l) := by unfold ws; infer_instance
theorem drop_consS (l : List S33) (i : Nat) (h : i < l.length) : l.drop i = l.getD i z33 :: l.drop (i + 1) := by
  rw [List.drop_eq_getElem_cons h]; simp [List.getD_eq_getElem?_getD, h]
theorem rdS (l : List S33) (i : Nat) : rd_T33 l (i : Int) = l.getD i z33 := by unfold rd_T33; simp
theorem e_meAll_l0 (l : List S33) (hl : (l.length : Int) ≤ 9000000000000000000) : ∀ (n i k : Nat), i + n = l.length → n < k → spec_meAll.l0 k l (l.length : Int) (i : Int) = some (decide (∀ x ∈ l.drop i, gk x.f0 x.f1)) := by
  intro n
  induction n with
  | zero =>
    intro i k hi hk
    obtain ⟨k, rfl, hk⟩ := round1 hk
    simp only [spec_meAll.l0]
    rw [if_neg (by omega), List.drop_eq_nil_of_le (by omega)]; simp
  | succ n ih =>
    intro i k hi' hk
    obtain ⟨k, rfl, hk⟩ := round1 hk
    simp only [spec_meAll.l0]
    rw [if_pos (by omega), if_pos (by omega), if_pos (by omega), rdS, e_meGood, drop_consS l i (by omega), w64 _ (by omega) (by omega)]
    have e : ((i : Int) + 1) = ((i + 1 : Nat) : Int) := by omega
    rw [e, ih (i + 1) k (by omega) (by omega)]
    simp only [Option.bind_some, decide_eq_true_eq, List.forall_mem_cons]
    by_cases h : gk (l.getD i z33).f0 (l.getD i z33).f1
    · rw [if_pos h]; congr 1; exact decide_eq_decide.mpr ⟨fun z => ⟨h, z⟩, fun z => z.2⟩
    · rw [if_neg h]; congr 1; symm; rw [decide_eq_false_iff_not]; exact fun z => h z.1
theorem e_meAll (k : Nat) (l : List S33) (hl : (l.length : Int) ≤ 9000000000000000000) (hk : l.length < k) : spec_meAll.f k l = some (decide (ws l)) := by
  unfold spec_meAll.f ws
  have := e_meAll_l0 l hl l.length 0 k (by omega) hk
  rw [e_l1In]; simp only [Option.bind_some, decide_eq_true_eq]
  by_cases h : 1 ≤ (l.length : Int) ∧ (l.length : Int) ≤ 8
  · rw [if_pos h]; simp only [h, true_and, and_self]; exact this
  · rw [if_neg h]; simp only [h, false_and, decide_false]
theorem e_AreWalkers (l : List S33) (hl : (l.length : Int) ≤ 9000000000000000000) : impl_AreWalkers.f l = some (decide (ws l)) := by
  unfold impl_AreWalkers.f ws; rw [if_pos hl]
  congr 1
  rw [Bool.eq_iff_iff]
  simp only [Bool.and_eq_true, decide_eq_true_eq, List.all_eq_true, impl_AreWalkers.q, gk]
  exact decide_eq_true_iff.symm
def gtr (lap p s : Int) : Prop := (2 ≤ lap ∧ lap ≤ 1000) ∧ (0 ≤ p ∧ p ≤ lap - 1) ∧ 1 ≤ s ∧ s ≤ 100
instance (lap p s : Int) : Decidable (gtr lap p s) := by unfold gtr; infer_instance
def grt (t : Int) : Prop := 0 ≤ t ∧ t ≤ 1000000
instance (t : Int) : Decidable (grt t) := by unfold grt; infer_instance
def glp (t : Int) : Prop := 1 ≤ t ∧ t ≤ 100
instance (t : Int) : Decidable (glp t) := by unfold glp; infer_instance
theorem evs {α : Type} {g f : Nat → Option α} {r : α} (K : Nat) (h : ∀ k, K ≤ k → g (k + 1) = f k) (k : Ev f r) : Ev g r := by
  obtain ⟨K', k⟩ := k
  refine ⟨max K K' + 1, fun n hn => ?_⟩
  obtain ⟨m, rfl⟩ : ∃ m, n = m + 1 := ⟨n - 1, by omega⟩
  rw [h m (by omega)]
  exact k m (by omega)
theorem low_neg (a b : Int) (hb : b ≠ 0) : lowN (-a) (-b) = lowN a b ∧ lowD (-a) (-b) = lowD a b := by
  have e : Int.gcd (-a) (-b) = Int.gcd a b := by simp [Int.gcd]
  unfold lowN lowD
  rw [e]
  by_cases h : b < 0
  · rw [if_pos h, if_pos h, if_neg (by omega), if_neg (by omega)]; exact ⟨rfl, rfl⟩
  · rw [if_neg h, if_neg h, if_pos (by omega), if_pos (by omega), Int.neg_neg, Int.neg_neg]; exact ⟨rfl, rfl⟩
theorem meet_sym (p s p' s' : Int) : meetV p s p' s' = meetV p' s' p s := by
  unfold meetV
  by_cases h : p = p'
  · rw [if_pos h, if_pos h.symm]
  · by_cases h2 : s = s'
    · rw [if_neg h, if_neg (fun z : p' = p => h z.symm), if_pos h2, if_pos h2.symm]
    · have q := low_neg (p' - p) (s - s') (by omega)
      rw [show -(p' - p) = p - p' by omega, show -(s - s') = s' - s by omega] at q
      rw [if_neg h, if_neg (fun z : p' = p => h z.symm), if_neg h2, if_neg (fun z : s' = s => h2 z.symm), q.1, q.2]
theorem low_cross (a b : Int) (hb : b ≠ 0) : lowN a b * b = lowD a b * a := by
  have hg := gcd_pos a b hb
  obtain ⟨u, hu⟩ : (Int.gcd a b : Int) ∣ a := Int.gcd_dvd_left ..
  obtain ⟨v, hv⟩ : (Int.gcd a b : Int) ∣ b := Int.gcd_dvd_right ..
  unfold lowN lowD
  generalize (Int.gcd a b : Int) = g at *
  subst hu hv
  by_cases h : g * v < 0
  · rw [if_pos h, if_pos h, show -(g * u) = g * (-u) by rw [Int.mul_neg], show -(g * v) = g * (-v) by rw [Int.mul_neg], Int.mul_ediv_cancel_left _ (by omega), Int.mul_ediv_cancel_left _ (by omega)]
    rw [Int.neg_mul, Int.neg_mul, Int.mul_left_comm u g v, Int.mul_left_comm v g u, Int.mul_comm u v]
  · rw [if_neg h, if_neg h, Int.mul_ediv_cancel_left _ (by omega), Int.mul_ediv_cancel_left _ (by omega)]
    rw [Int.mul_left_comm u g v, Int.mul_left_comm v g u, Int.mul_comm u v]
/-- Where they meet: the time times the difference of speeds is the gap. -/
theorem meet_cross (p s p' s' : Int) (h : (meetV p s p' s').2.2 = true) (hp : p ≠ p') : (meetV p s p' s').1 * (s - s') = (meetV p s p' s').2.1 * (p' - p) ∧ s ≠ s' := by
  unfold meetV at h ⊢
  rw [if_neg hp] at h ⊢
  by_cases h2 : s = s'
  · rw [if_pos h2] at h; simp at h
  · rw [if_neg h2] at h ⊢
    by_cases h3 : lowN (p' - p) (s - s') < 0
    · rw [if_pos h3] at h; simp at h
    · rw [if_neg h3]
      exact ⟨low_cross _ _ (by omega), h2⟩
/-- One that is faster and behind is met. -/
theorem meet_ok (p s p' s' : Int) (hp : p < p') (hs : s > s') : (meetV p s p' s').2.2 = true := by
  unfold meetV
  have q := lowN_neg (p' - p) (s - s') (by omega)
  rw [if_neg (by omega), if_neg (by omega), if_neg]
  intro z
  have := q.mp z
  rw [if_neg (by omega)] at this
  omega
theorem mul_pos' {a b : Int} (ha : 0 < a) (hb : 0 < b) : 0 < a * b := Int.mul_pos ha hb
/-- a/b ≤ x/y and x/y ≤ u/v. -/
theorem frac_trans (a b x y u v : Int) (hb : 0 < b) (hy : 0 < y) (hv : 0 < v) (h1 : a * y ≤ x * b) (h2 : x * v ≤ u * y) : a * v ≤ u * b := by
  have e1 : a * y * v ≤ x * b * v := Int.mul_le_mul_of_nonneg_right h1 (by omega)
  have e2 : x * v * b ≤ u * y * b := Int.mul_le_mul_of_nonneg_right h2 (by omega)
  have e3 : (a * v) * y ≤ (u * b) * y := by
    rw [show (a * v) * y = a * y * v by rw [Int.mul_right_comm], show (u * b) * y = u * y * b by rw [Int.mul_right_comm]]
    rw [show x * b * v = x * v * b by rw [Int.mul_right_comm]] at e1
    omega
  exact Int.le_of_mul_le_mul_right e3 hy
theorem e_markWalkerS_l0 : ∀ (n i k : Nat) (l : List S33) (c : Int), l.length ≤ 1048576 → i + n = l.length → 0 ≤ c → c ≤ 1 + 2 * i → n < k → ∃ m, laws_markWalkerS.l0 k l c (i : Int) = some (c + 2 * n, m) := by
  intro n; induction n with
  | zero =>
    intro i k l c hl hi hc hc2 hk
    obtain ⟨k, rfl⟩ : ∃ m, k = m + 1 := ⟨k - 1, by omega⟩
    simp only [laws_markWalkerS.l0]
    rw [if_neg (by omega)]
    exact ⟨l, by simp⟩
  | succ n ih =>
    intro i k l c hl hi hc hc2 hk
    obtain ⟨k, rfl⟩ : ∃ m, k = m + 1 := ⟨k - 1, by omega⟩
    simp only [laws_markWalkerS.l0]
    rw [if_pos (by omega), if_pos (by omega)]
    simp only [Option.bind_some]
    rw [w64 (c + 1) (by omega) (by omega), w64 (c + 1 + 1) (by omega) (by omega), w64 ((i : Int) + 1) (by omega) (by omega), show ((i : Int) + 1) = ((i + 1 : Nat) : Int) by omega]
    obtain ⟨m, hm⟩ := ih (i + 1) k ((l.set ((i : Int)).toNat ⟨c, (rd_T33 l (i : Int)).f1⟩).set ((i : Int)).toNat ⟨(rd_T33 (l.set ((i : Int)).toNat ⟨c, (rd_T33 l (i : Int)).f1⟩) (i : Int)).f0, c + 1⟩) (c + 1 + 1) (by rw [List.length_set, List.length_set]; exact hl) (by rw [List.length_set, List.length_set]; omega) (by omega) (by omega) (by omega)
    exact ⟨m, by rw [hm]; congr 2; omega⟩
theorem e_markWalkerS (k : Nat) (l : List S33) (hl : l.length ≤ 1048576) (hk : l.length < k) : ∃ m, laws_markWalkerS.f k l 1 = some (1 + 2 * (l.length : Int), m) := by
  unfold laws_markWalkerS.f
  exact e_markWalkerS_l0 l.length 0 k l 1 hl (by omega) (by omega) (by omega) hk

open List in
theorem am_z (l : List S33) (hw : ws l) (i : Nat) (hi : i < l.length) : gk (l.getD i z33).f0 (l.getD i z33).f1 := by
  have : l.getD i z33 ∈ l := by rw [List.getD_eq_getElem?_getD, List.getElem?_eq_getElem hi, Option.getD_some]; exact List.getElem_mem hi
  exact hw.2 _ this
theorem am_mt (l : List S33) (hw : ws l) (i j : Nat) (hi : i < l.length) (hj : j < l.length) : impl_meetingTime.f KM (l.getD i z33).f0 (l.getD i z33).f1 (l.getD j z33).f0 (l.getD j z33).f1 = some (mtM l i j) ∧ mtM l i j = meetV (l.getD i z33).f0 (l.getD i z33).f1 (l.getD j z33).f0 (l.getD j z33).f1 := by
  have e := e_meetingTime KM _ _ _ _ (am_z l hw i hi) (am_z l hw j hj) (by unfold KM; omega)
  have : mtM l i j = meetV (l.getD i z33).f0 (l.getD i z33).f1 (l.getD j z33).f0 (l.getD j z33).f1 := by unfold mtM; rw [e, Option.getD_some]
  exact ⟨by rw [e, this], this⟩
theorem am_gd (l : List S33) (hw : ws l) (i j : Nat) (hi : i < l.length) (hj : j < l.length) (ok : (mtM l i j).2.2 = true) : SymW.gdR (rowK (mtM l) i j) ∧ (0 ≤ (mtM l i j).1 ∧ (mtM l i j).1 ≤ 2000) ∧ (1 ≤ (mtM l i j).2.1 ∧ (mtM l i j).2.1 ≤ 200) := by
  have h := (am_mt l hw i j hi hj).2
  have b := meet_bd _ _ _ _ (am_z l hw i hi) (am_z l hw j hj) (by rw [← h]; exact ok)
  rw [← h] at b
  refine ⟨?_, b⟩
  unfold SymW.gdR rowK; simp; omega
theorem am_impl (l : List S33) (hw : ws l) : impl_allMeetings.f l = some (SymW.srtR (rowsM l)) := by
  have h8 := hw.1.2
  unfold impl_allMeetings.f
  rw [if_pos]
  refine ⟨by omega, fun i hi j hj => by rw [(am_mt l hw i j hi hj).1]; rfl, fun r hr => ?_⟩
  obtain ⟨q, j, _, j2, j3, j4, rfl⟩ := (rowsI_mem (mtM l) l.length l.length 0 (by omega)).1 r hr
  exact (am_gd l hw q j (by omega) j3 j4).1
theorem am_l2 (x0 x16 : List S33) (o : List (List Int)) (i kk a b x17 x18 p s : Int) (r : Option (List (List Int) × Bool)) (ho : o.length ≤ 1000) (go_ : ∀ y ∈ o, SymW.gdR y) (K : Nat)
    (pos : Nat) (hK : ∀ k, K ≤ k → spec_AllMeetings.l1 k x0 (o.take pos ++ [i, kk, a, b] :: o.drop pos) i (wrap64 (kk + 1)) x16 x17 x18 p s = r) : ∀ (j k : Nat), j ≤ o.length → SymW.posR [i, kk, a, b] o j = pos → K + j + 1 ≤ k →
    spec_AllMeetings.l2 k x0 o i kk a b (j : Int) x16 x17 x18 p s = r := by
  intro j
  induction j with
  | zero =>
    intro k hj hp hk
    obtain ⟨k, rfl⟩ : ∃ m, k = m + 1 := ⟨k - 1, by omega⟩
    have : pos = 0 := by rw [← hp]; rfl
    subst this
    simp only [spec_AllMeetings.l2, Int.natCast_zero, Int.ofNat_zero]
    have := hK k (by omega)
    simp only [List.take_zero, List.drop_zero, List.nil_append] at this
    simp [this]; omega
  | succ j ih =>
    intro k hj hp hk
    obtain ⟨k, rfl⟩ : ∃ m, k = m + 1 := ⟨k - 1, by omega⟩
    have e1 : wrap64 (((j + 1 : Nat) : Int) - 1) = (j : Int) := by rw [w64 _ (by omega) (by omega)]; omega
    have e2 : rd_L3 o (j : Int) = o.getD j [] := by unfold rd_L3; simp
    have hm : o.getD j [] ∈ o := by rw [List.getD_eq_getElem?_getD, List.getElem?_eq_getElem (show j < o.length by omega), Option.getD_some]; exact List.getElem_mem _
    have hl : (o.getD j []).length = 4 := (go_ _ hm).1
    simp only [spec_AllMeetings.l2]
    rw [e1, e2, if_pos (by omega), if_pos (by omega), if_pos (by omega), if_pos (by omega), if_pos (by omega)]
    simp only [SymW.posR] at hp
    by_cases c : SymW.tlt [i, kk, a, b] (o.getD j [])
    · rw [if_pos c] at hp
      have c' := c
      unfold SymW.tlt at c'
      rw [if_pos (by simpa [rd] using c')]
      exact ih k (by omega) hp (by omega)
    · rw [if_neg c] at hp
      have c' := c
      unfold SymW.tlt at c'
      rw [if_neg (by simpa [rd] using c')]
      subst hp
      have := hK k (by omega)
      have t : ((j + 1 : Nat) : Int).toNat = j + 1 := by omega
      have t1 : (o.take (j + 1)).length ≤ 1000 := by simp; omega
      have t2 : (o.drop (j + 1)).length ≤ 1000 := by simp; omega
      simp only [Option.bind_some, t, List.nil_append, List.length_append, List.length_nil, List.length_cons, Nat.zero_add]
      rw [if_pos (by omega), if_pos (by omega), if_pos (by omega), if_pos (by omega), if_pos (by omega), List.append_assoc]
      exact this
theorem am_l1 (l : List S33) (hw : ws l) (r : Option (List (List Int) × Bool)) (i : Nat) (hi : i < l.length) : ∀ (n kk : Nat) (o : List (List Int)) (K : Nat), kk + n = l.length → o.length + n ≤ 1000 → (∀ y ∈ o, SymW.gdR y) →
    (∀ k, K ≤ k → spec_AllMeetings.l0 k l ((rowsK (mtM l) i n kk).foldl (fun o x => SymW.insR x o) o) l (l.length : Int) ((i + 1 : Nat) : Int) = r) →
    ∃ K', ∀ k, K' ≤ k → spec_AllMeetings.l1 k l o (i : Int) (kk : Int) l (l.length : Int) (i : Int) (l.getD i z33).f0 (l.getD i z33).f1 = r := by
  have h8 := hw.1.2
  intro n
  induction n with
  | zero =>
    intro kk o K h ho go_ hK
    refine ⟨K + 1, fun k hk => ?_⟩
    obtain ⟨k, rfl⟩ : ∃ m, k = m + 1 := ⟨k - 1, by omega⟩
    simp only [spec_AllMeetings.l1]
    rw [if_neg (by omega), w64 _ (by omega) (by omega), show ((i : Int) + 1) = ((i + 1 : Nat) : Int) by omega]
    exact hK k (by omega)
  | succ n ih =>
    intro kk o K h ho go_ hK
    have hm := (am_mt l hw i kk hi (by omega)).2
    have e1 : wrap64 ((kk : Int) + 1) = ((kk + 1 : Nat) : Int) := by rw [w64 _ (by omega) (by omega)]; omega
    simp only [rowsK] at hK
    by_cases ok : (mtM l i kk).2.2 = true
    · rw [if_pos ok] at hK
      simp only [List.foldl_cons] at hK
      have g := (am_gd l hw i kk hi (by omega) ok).1
      have pr := SymW.insR_perm (rowK (mtM l) i kk) o
      obtain ⟨K1, h1⟩ := ih (kk + 1) (SymW.insR (rowK (mtM l) i kk) o) K (by omega) (by have := pr.length_eq; simp only [List.length_cons] at this; omega) (fun y hy => by
        have := pr.mem_iff.1 hy
        rcases List.mem_cons.1 this with rfl | q
        · exact g
        · exact go_ y q) hK
      refine ⟨K1 + o.length + 20000, fun k hk => ?_⟩
      obtain ⟨k, rfl⟩ : ∃ m, k = m + 1 := ⟨k - 1, by omega⟩
      simp only [spec_AllMeetings.l1]
      rw [if_pos (by omega), if_pos (by omega), rdS, e_meMeet k _ _ _ _ (am_z l hw i hi) (am_z l hw kk (by omega)) (by omega), ← hm]
      simp only [Option.bind_some]
      rw [if_pos ok]
      exact am_l2 l l o (i : Int) (kk : Int) _ _ _ _ _ _ r (by omega) go_ K1 _ (fun k hk => by rw [e1]; exact h1 k hk) o.length k (Nat.le_refl _) rfl (by omega)
    · rw [if_neg ok] at hK
      obtain ⟨K1, h1⟩ := ih (kk + 1) o K (by omega) (by omega) go_ hK
      refine ⟨K1 + 20000, fun k hk => ?_⟩
      obtain ⟨k, rfl⟩ : ∃ m, k = m + 1 := ⟨k - 1, by omega⟩
      simp only [spec_AllMeetings.l1]
      rw [if_pos (by omega), if_pos (by omega), rdS, e_meMeet k _ _ _ _ (am_z l hw i hi) (am_z l hw kk (by omega)) (by omega), ← hm]
      simp only [Option.bind_some]
      rw [if_neg ok, e1]
      exact h1 k (by omega)
theorem am_l0 (l : List S33) (hw : ws l) : ∀ (n i : Nat) (o : List (List Int)), n + i = l.length → o.length + n * 10 ≤ 900 → (∀ y ∈ o, SymW.gdR y) →
    ∃ K', ∀ k, K' ≤ k → spec_AllMeetings.l0 k l o l (l.length : Int) (i : Int) = some ((rowsI (mtM l) l.length n i).foldl (fun o x => SymW.insR x o) o, true) := by
  have h8 := hw.1.2
  intro n
  induction n with
  | zero =>
    intro i o h ho go_
    refine ⟨1, fun k hk => ?_⟩
    obtain ⟨k, rfl⟩ : ∃ m, k = m + 1 := ⟨k - 1, by omega⟩
    simp only [spec_AllMeetings.l0]
    rw [if_neg (by omega)]
    simp [rowsI]
  | succ n ih =>
    intro i o h ho go_
    have hr := rowsK_mem (mtM l) i (l.length - (i + 1)) (i + 1)
    have pf : ∀ (rs : List (List Int)) (o : List (List Int)), (rs.foldl (fun o x => SymW.insR x o) o).Perm (rs ++ o) := by
      intro rs
      induction rs with
      | nil => intro o; exact List.Perm.refl _
      | cons x t ih => intro o; simp only [List.foldl_cons]; exact (ih _).trans ((List.Perm.append_left t (SymW.insR_perm x o)).trans (by simp))
    have pr := pf (rowsK (mtM l) i (l.length - (i + 1)) (i + 1)) o
    obtain ⟨K, hK⟩ := ih (i + 1) ((rowsK (mtM l) i (l.length - (i + 1)) (i + 1)).foldl (fun o x => SymW.insR x o) o) (by omega) (by have := pr.length_eq; rw [List.length_append] at this; omega) (fun y hy => by
      rcases List.mem_append.1 (pr.mem_iff.1 hy) with q | q
      · obtain ⟨j, j1, j2, j3, rfl⟩ := hr.1 y q
        exact (am_gd l hw i j (by omega) (by omega) j3).1
      · exact go_ y q)
    obtain ⟨K1, h1⟩ := am_l1 l hw _ i (by omega) (l.length - (i + 1)) (i + 1) o K (by omega) (by omega) go_ hK
    refine ⟨K1 + 1, fun k hk => ?_⟩
    obtain ⟨k, rfl⟩ : ∃ m, k = m + 1 := ⟨k - 1, by omega⟩
    simp only [spec_AllMeetings.l0]
    rw [if_pos (by omega), if_pos (by omega), if_pos (by omega), rdS, w64 _ (by omega) (by omega), show ((i : Int) + 1) = ((i + 1 : Nat) : Int) by omega, h1 k (by omega)]
    simp only [rowsI, List.foldl_append]
theorem am_spec (l : List S33) (hl : (l.length : Int) ≤ 1048576) : ∃ K, ∀ k, K ≤ k → spec_AllMeetings.f k l = some (if ws l then (SymW.srtR (rowsM l), true) else ([], false)) := by
  by_cases hw : ws l
  · have h8 := hw.1.2
    obtain ⟨K, hK⟩ := am_l0 l hw l.length 0 [] (by omega) (by simp; omega) (by simp)
    refine ⟨K + 10000000, fun k hk => ?_⟩
    unfold spec_AllMeetings.f
    rw [e_meAll k l (by omega) (by omega), if_pos hw]
    simp only [decide_eq_true hw, Option.bind_some, if_true]
    have := hK k (by omega)
    simp only [Int.natCast_zero, Int.ofNat_zero] at this
    exact this
  · refine ⟨10000000, fun k hk => ?_⟩
    unfold spec_AllMeetings.f
    rw [e_meAll k l (by omega) (by omega), if_neg hw]
    simp [hw]
theorem e_eqIntSS_l0 (rs : List (List Int)) (hr : ∀ r ∈ rs, r.length = 4) (hl : rs.length ≤ 100000) : ∀ (n i k : Nat), i + n = rs.length → n + 100 < k → laws_eqIntSS.l0 k rs rs (i : Int) = some true := by
  intro n
  induction n with
  | zero =>
    intro i k hi hk
    obtain ⟨k, rfl⟩ : ∃ m, k = m + 1 := ⟨k - 1, by omega⟩
    simp only [laws_eqIntSS.l0]
    rw [if_neg (by omega)]
  | succ n ih =>
    intro i k hi hk
    obtain ⟨k, rfl⟩ : ∃ m, k = m + 1 := ⟨k - 1, by omega⟩
    simp only [laws_eqIntSS.l0]
    have h4 : (rd_L3 rs (i : Int)).length = 4 := by
      unfold rd_L3
      have hi' : (i : Int).toNat < rs.length := by omega
      rw [List.getD_eq_getElem?_getD, List.getElem?_eq_getElem hi', Option.getD_some]
      exact hr _ (List.getElem_mem hi')
    rw [if_pos (by omega), if_pos (by omega), if_pos (by omega), e_eqIntS k _ (by omega) (by omega)]
    simp only [Option.bind_some, if_true]
    rw [w64 _ (by omega) (by omega), show ((i : Int) + 1) = ((i + 1 : Nat) : Int) by omega]
    exact ih (i + 1) k (by omega) (by omega)
theorem e_eqIntSS (k : Nat) (rs : List (List Int)) (hr : ∀ r ∈ rs, r.length = 4) (hl : rs.length ≤ 100000) (hk : 200000 < k) : laws_eqIntSS.f k rs rs = some true := by
  unfold laws_eqIntSS.f; rw [if_pos rfl]; exact e_eqIntSS_l0 rs hr hl rs.length 0 k (by omega) (by omega)
theorem e_mark4 (k : Nat) (r : List Int) (c : Int) (hr : r.length = 4) (h0 : 0 ≤ c) (h1 : c ≤ 100000) (hk : 100 < k) : laws_markIntS.f k r c = some (c + 4, [c, c + 1, c + 2, c + 3]) := by
  obtain ⟨k, rfl⟩ : ∃ m, k = m + 5 := ⟨k - 5, by omega⟩
  match r, hr with
  | [a, b, d, e], _ =>
    have w1 := w64 (c + 1) (by omega) (by omega)
    have w2 := w64 (c + 1 + 1) (by omega) (by omega)
    have w3 := w64 (c + 1 + 1 + 1) (by omega) (by omega)
    have w4 := w64 (c + 1 + 1 + 1 + 1) (by omega) (by omega)
    have i1 : wrap64 (1 : Int) = 1 := w64 _ (by omega) (by omega)
    have i2 : wrap64 (2 : Int) = 2 := w64 _ (by omega) (by omega)
    have i3 : wrap64 (3 : Int) = 3 := w64 _ (by omega) (by omega)
    have i4 : wrap64 (4 : Int) = 4 := w64 _ (by omega) (by omega)
    simp [laws_markIntS.f, laws_markIntS.l0, w1, w2, w3, w4, i1, i2, i3, i4]
    omega
theorem e_held4 (k : Nat) (c : Int) (h0 : 0 ≤ c) (h1 : c ≤ 1000000) (hk : 100 < k) : laws_heldIntS.f k [c, c + 1, c + 2, c + 3] c = some (c + 4) := by
  obtain ⟨k, rfl⟩ : ∃ m, k = m + 5 := ⟨k - 5, by omega⟩
  have w1 := w64 (c + 1) (by omega) (by omega)
  have w2 := w64 (c + 1 + 1) (by omega) (by omega)
  have w3 := w64 (c + 1 + 1 + 1) (by omega) (by omega)
  have w4 := w64 (c + 1 + 1 + 1 + 1) (by omega) (by omega)
  have i1 : wrap64 (1 : Int) = 1 := w64 _ (by omega) (by omega)
  have i2 : wrap64 (2 : Int) = 2 := w64 _ (by omega) (by omega)
  have i3 : wrap64 (3 : Int) = 3 := w64 _ (by omega) (by omega)
  have i4 : wrap64 (4 : Int) = 4 := w64 _ (by omega) (by omega)
  have e2 : c + 1 + 1 = c + 2 := by omega
  have e3 : c + 1 + 1 + 1 = c + 3 := by omega
  have e4 : c + 1 + 1 + 1 + 1 = c + 4 := by omega
  rw [e2] at w2 w3 w4
  rw [show c + 2 + 1 = c + 3 by omega] at w3 w4
  rw [show c + 3 + 1 = c + 4 by omega] at w4
  simp [laws_heldIntS.f, laws_heldIntS.l0, rd, w1, i1, i2, i3, i4, e2, w2, show c + 2 + 1 = c + 3 by omega, w3, show c + 3 + 1 = c + 4 by omega, w4]
theorem mkTo_at (rs : List (List Int)) : ∀ (i j : Nat), i ≤ rs.length → j < i → (mkTo rs i).getD j [] = mrow j := by
  intro i
  induction i with
  | zero => intro j _ h; omega
  | succ i ih =>
    intro j hi hj
    rw [mkTo]
    by_cases z : j = i
    · subst z; simp [List.getD_eq_getElem?_getD, mkTo_len, show j < rs.length by omega]
    · have := ih j (by omega) (by omega)
      simp only [List.getD_eq_getElem?_getD] at this ⊢
      rw [List.getElem?_set_ne (by omega)]; exact this
theorem e_heldSS_l0 (rs : List (List Int)) (hl : rs.length ≤ 1000) : ∀ (n i k : Nat), i + n = rs.length → n + 200 < k → laws_heldIntSS.l0 k (mkTo rs rs.length) (1 + 4 * (i : Int)) (i : Int) = some (1 + 4 * (rs.length : Int)) := by
  intro n
  induction n with
  | zero =>
    intro i k hi hk
    obtain ⟨k, rfl⟩ : ∃ m, k = m + 1 := ⟨k - 1, by omega⟩
    simp only [laws_heldIntSS.l0]
    rw [if_neg (by rw [mkTo_len]; omega)]
    congr 1; omega
  | succ n ih =>
    intro i k hi hk
    obtain ⟨k, rfl⟩ : ∃ m, k = m + 1 := ⟨k - 1, by omega⟩
    simp only [laws_heldIntSS.l0]
    have e : rd_L3 (mkTo rs rs.length) (i : Int) = [1 + 4 * (i : Int), 1 + 4 * (i : Int) + 1, 1 + 4 * (i : Int) + 2, 1 + 4 * (i : Int) + 3] := by
      unfold rd_L3
      rw [show (i : Int).toNat = i by omega, mkTo_at rs rs.length i (by omega) (by omega)]
      unfold mrow
      congr 1; omega; congr 1; omega; congr 1; omega; congr 1; omega
    rw [if_pos (by rw [mkTo_len]; omega), if_pos (by omega), e, e_held4 k _ (by omega) (by omega) (by omega)]
    simp only [Option.bind_some]
    rw [if_neg (by omega), w64 _ (by omega) (by omega), show ((i : Int) + 1) = ((i + 1 : Nat) : Int) by omega, show 1 + 4 * (i : Int) + 4 = 1 + 4 * ((i + 1 : Nat) : Int) by omega]
    exact ih (i + 1) k (by omega) (by omega)
theorem e_heldSS (k : Nat) (rs : List (List Int)) (hl : rs.length ≤ 1000) (hk : 2000 < k) : laws_heldIntSS.f k (mkTo rs rs.length) 1 = some (1 + 4 * (rs.length : Int)) := by
  unfold laws_heldIntSS.f
  have := e_heldSS_l0 rs hl rs.length 0 k (by omega) (by omega)
  simpa using this

theorem am_rows (l : List S33) (hw : ws l) : (SymW.srtR (rowsM l)).length ≤ 100 ∧ ∀ r ∈ SymW.srtR (rowsM l), r.length = 4 := by
  have h8 := hw.1.2
  obtain ⟨m1, m2, m3⟩ := rowsI_mem (mtM l) l.length l.length 0 (by omega)
  have g : ∀ r ∈ rowsM l, SymW.gdR r := fun r hr => by
    obtain ⟨q, j, _, j2, j3, j4, rfl⟩ := m1 r hr
    exact (am_gd l hw q j (by omega) j3 j4).1
  have p := (SymW.srtR_spec (rowsM l) g m2).1
  have : l.length * (l.length - 1) ≤ 8 * 7 := Nat.mul_le_mul (by omega) (by omega)
  refine ⟨by rw [p.length_eq]; unfold rowsM; omega, fun r hr => (g r (p.mem_iff.1 hr)).1⟩
theorem allm_all (l : List S33) (hl : (l.length : Int) ≤ 1048576) : ∃ v : List (List Int) × Bool, v.1.length ≤ 100 ∧ (∀ r ∈ v.1, r.length = 4) ∧ impl_AllMeetings.f l = some v ∧ ∃ K, ∀ k, K ≤ k → spec_AllMeetings.f k l = some v := by
  obtain ⟨K, hK⟩ := am_spec l hl
  by_cases hw : ws l
  · refine ⟨(SymW.srtR (rowsM l), true), (am_rows l hw).1, (am_rows l hw).2, ?_, K, fun k hk => ?_⟩
    · unfold impl_AllMeetings.f
      rw [e_AreWalkers l (by omega), am_impl l hw]
      simp [hw]
    · rw [hK k hk, if_pos hw]
  · refine ⟨([], false), by simp, by simp, ?_, K, fun k hk => ?_⟩
    · unfold impl_AllMeetings.f
      rw [e_AreWalkers l (by omega)]
      simp [hw]
    · rw [hK k hk, if_neg hw]
theorem FnExactAllMeetings_all (A0 : Option Addr) (c0 : Nat) (l : List S30) (w : World) (hr0 : Kd.C k30 w A0 l.length l) (hc0 : l.length ≤ c0) (hm : l.length ≤ maxLen) (hwf : ∀ x ∈ l, (Lit.int .i64 x.f0).wf = true ∧ (Lit.int .i64 x.f1).wf = true) :
    Calls Try.prog 10 #[.slice A0 l.length c0] w fun e w' => e = .returned (.bool true) ∧ Below w.heap.size w w' := by
  have hz := e_szWalkerS l hm
  by_cases h : (l.length : Int) > 1048576
  · rw [if_pos h] at hz
    exact law10.big A0 c0 l _ w hr0 hc0 hz (by decide)
  · rw [if_neg h] at hz
    obtain ⟨⟨rs, ok⟩, hvl, hv4, hI, K, hK⟩ := allm_all (l.map toI) (by simp; omega)
    have hlen : (l.map toI).length ≤ 1048576 := by simp; omega
    obtain ⟨N, hN1, hN2⟩ : ∃ N, K ≤ N ∧ 99999997 ≤ N := ⟨max K 99999997, by omega, by omega⟩
    obtain ⟨mw, hmw⟩ := e_markWalkerS N (l.map toI) (by omega) (by omega)
    simp only at hvl hv4
    exact law10.calls N A0 c0 l _ _ (l.map toI) mw rs ok w hr0 hc0 hz (by omega) (e_toWalkerS N l (by omega) (by omega)) (hK N hN1) hI (e_eqIntSS N rs hv4 (by omega) (by omega)) (e_eqWalkerS N _ (by omega) (by omega)) hmw (by omega) (by omega)
      (fun r c hr h0 h1 => e_mark4 N r c hr h0 h1 (by omega)) (e_heldSS N rs (by omega) (by omega))

end Go.Proofs.Ytfeabflbgendbaa.Pure
