/- The pure statement of the law FnExactLastOrder: what the program's function computes is what the reference's computes. -/
import Derived.Test.YtfeabflbgendbaaOFnExactLastOrderx5
namespace Go.Proofs.Ytfeabflbgendbaa.Pure
open Go.RowKit Go.Proofs.Ytfeabflbgendbaa.OFnExactLastOrder Go.Proofs.YtfeabflbgendbaaW.PrintWords Go.Proofs.YtfeabflbgendbaaW.PrintLast Go.Proofs.YtfeabflbgendbaaW.PrintMore
set_option linter.unusedVariables false
set_option linter.unusedSimpArgs false
theorem w64 (n : Int) (h1 : -9223372036854775808 ≤ n) (h2 : n ≤ 9223372036854775807) : wrap64 n = n := by unfold wrap64; omega
theorem dec_and (p q : Prop) [Decidable p] [Decidable q] [Decidable (p ∧ q)] : (if p then some (decide q) else some false) = some (decide (p ∧ q)) := by
  by_cases h : p <;> by_cases h' : q <;> simp [h, h']
theorem le_cases (a b c : Int) : (if a ≥ b then some (decide (a ≤ c)) else some false) = some (decide (b ≤ a ∧ a ≤ c)) := by
  by_cases h : b ≤ a <;> by_cases h' : a ≤ c <;> simp [h, h']
def gd (u d : Int) : Prop := 1 ≤ u ∧ u ≤ 1000 ∧ 0 ≤ d ∧ d ≤ 1000
instance (u d : Int) : Decidable (gd u d) := by unfold gd; infer_instance
def gk (p s : Int) : Prop := -1000 ≤ p ∧ p ≤ 1000 ∧ -100 ≤ s ∧ s ≤ 100
instance (p s : Int) : Decidable (gk p s) := by unfold gk; infer_instance
def gw (w : Int) : Prop := 1 ≤ w ∧ w ≤ 1000000
instance (w : Int) : Decidable (gw w) := by unfold gw; infer_instance
def reach (u d day : Int) : Int := if u ≤ d then u else u + (day - 1) * (u - d)
def dayH (u d h : Int) : Int := if h ≤ u then 1 else if u ≤ d then 0 else 1 + (h - u + (u - d) - 1) / (u - d)
theorem mul_bd (a b A B : Int) (h1 : 0 ≤ a) (h2 : a ≤ A) (h3 : 0 ≤ b) (h4 : b ≤ B) : 0 ≤ a * b ∧ a * b ≤ A * B :=
  ⟨Int.mul_nonneg h1 h3, Int.mul_le_mul h2 h4 h3 (by omega)⟩
theorem reach_bd (u d day : Int) (g : gd u d) (w : gw day) : u ≤ reach u d day ∧ reach u d day ≤ 1000000000 := by
  unfold gd at g; unfold gw at w; unfold reach
  split
  · omega
  · have := mul_bd (day - 1) (u - d) 999999 1000 (by omega) (by omega) (by omega) (by omega)
    omega
theorem div_bd (x g : Int) (hg : 1 ≤ g) (hx : 0 ≤ x) : 0 ≤ x / g ∧ x / g ≤ x :=
  ⟨Int.ediv_nonneg hx (by omega), Int.ediv_le_self _ hx⟩
theorem dayH_bd (u d h : Int) (g : gd u d) (hh : h ≤ 1000000) : 0 ≤ dayH u d h ∧ dayH u d h ≤ 1001000 := by
  unfold gd at g; unfold dayH
  split
  · omega
  · split
    · omega
    · have := div_bd (h - u + (u - d) - 1) (u - d) (by omega) (by omega)
      omega
theorem ceil_le (x g n : Int) (hg : 1 ≤ g) : (x + g - 1) / g ≤ n ↔ x ≤ n * g := by
  have h : (x + g - 1) / g < n + 1 ↔ x + g - 1 < (n + 1) * g := Int.ediv_lt_iff_lt_mul (by omega)
  have e : (n + 1) * g = n * g + g := by rw [Int.add_mul, Int.one_mul]
  rw [e] at h
  constructor
  · intro k; have := h.mp (by omega); omega
  · intro k; have := h.mpr (by omega); omega
/-- The day is reached at the end of a day just if that day is not before it. -/
theorem dayH_le (u d h day : Int) (hd : 1 ≤ day) : (0 < dayH u d h ∧ dayH u d h ≤ day) ↔ h ≤ reach u d day := by
  unfold dayH reach
  by_cases h1 : h ≤ u
  · rw [if_pos h1]
    split
    · omega
    · have := Int.mul_nonneg (show 0 ≤ day - 1 by omega) (show 0 ≤ u - d by omega)
      omega
  · rw [if_neg h1]
    by_cases h2 : u ≤ d
    · rw [if_pos h2, if_pos h2]; omega
    · rw [if_neg h2, if_neg h2]
      have a := Int.ediv_nonneg (show 0 ≤ h - u + (u - d) - 1 by omega) (show 0 ≤ u - d by omega)
      have c := ceil_le (h - u) (u - d) (day - 1) (by omega)
      constructor
      · rintro ⟨_, k⟩; have := c.mp (by omega); omega
      · intro k; have := c.mpr (by omega); omega
def daysV (u d w : Int) : Int × Bool := if gd u d ∧ gw w then (dayH u d w, decide (0 < dayH u d w)) else (0, false)
def greatV (u d w : Int) : Int × Bool := if gd u d ∧ gw w then (reach u d w, true) else (0, false)
def evenV (u d w day : Int) : Int × Bool := if (gd u d ∧ gw w) ∧ gw day then (min w (reach u d day), true) else (0, false)
def mornV (u d w day : Int) : Int × Bool := if (gd u d ∧ gw w) ∧ gw day then (if day = 1 then 0 else if min w (reach u d (day - 1)) = w then w else max 0 (min w (reach u d (day - 1)) - d), true) else (0, false)
def mornI (u d w day : Int) : Int := if day = 1 then 0 else if min w (reach u d (day - 1)) = w then w else max 0 (min w (reach u d (day - 1)) - d)
def dayV (u d w h : Int) : Int × Bool := if (gd u d ∧ gw w) ∧ 0 ≤ h ∧ h ≤ w then (dayH u d h, decide (0 < dayH u d h)) else (0, false)
def leadV (u d u' d' w day : Int) : Int × Bool := if ((gd u d ∧ gw w) ∧ gd u' d') ∧ gw day then (min w (reach u d day) - min w (reach u' d' day), true) else (0, false)
def upL (P : Int → Bool) : Nat → Int → Int × Bool
  | 0, _ => (0, false)
  | n + 1, up => if P up = true then (up, true) else upL P n (up + 1)
def slowP (w days d up : Int) : Bool := decide (w ≤ reach up d days)
def slowV (w days d : Int) : Int × Bool := if (gw w ∧ gw days) ∧ 0 ≤ d ∧ d ≤ 1000 then upL (slowP w days d) 1000 1 else (0, false)
def downL (P : Int → Bool) : Nat → Int → Int × Bool
  | 0, _ => (0, false)
  | n + 1, x => if P x = true then (x, true) else downL P n (x - 1)
def mostP (w days u x : Int) : Bool := decide (w ≤ reach u x days)
def mostV (w days u : Int) : Int × Bool := if (gw w ∧ gw days) ∧ 1 ≤ u ∧ u ≤ 1000 then downL (mostP w days u) 1001 1000 else (0, false)
theorem e_within (a b c : Int) : impl_within.f a b c = some (decide (b ≤ a ∧ a ≤ c)) := by
  unfold impl_within.f; exact le_cases a b c
theorem e_l1In (a b c : Int) : spec_l1In.f a b c = some (decide (b ≤ a ∧ a ≤ c)) := by
  unfold spec_l1In.f; exact le_cases a b c
theorem e_toWalker (u d : Int) : laws_toWalker.f u d = some (u, d) := rfl
theorem e_iIsWalker (u d : Int) : impl_IsWalker.f u d = some (decide (gk u d)) := by
  unfold impl_IsWalker.f; simp only [e_within, Option.bind_some]
  by_cases h : -1000 ≤ u ∧ u ≤ 1000 <;> by_cases h' : -100 ≤ d ∧ d ≤ 100 <;> simp [gk, h, h'] <;> omega
theorem e_meGood (u d : Int) : spec_meGood.f u d = some (decide (gk u d)) := by
  unfold spec_meGood.f; simp only [e_l1In, Option.bind_some]
  by_cases h : -1000 ≤ u ∧ u ≤ 1000 <;> by_cases h' : -100 ≤ d ∧ d ≤ 100 <;> simp [gk, h, h'] <;> omega
theorem uniq (a b q r : Int) (hb : 0 < b) (e : b * q + r = a) (h0 : 0 ≤ r) (h1 : r < b) : a / b = q ∧ a % b = r :=
  (Int.ediv_emod_unique hb).mpr ⟨by rw [← e]; exact Int.add_comm _ _, h0, h1⟩
theorem tm_bd (a b : Int) (hb : 0 < b) : b * a.tdiv b + a.tmod b = a ∧ -b < a.tmod b ∧ a.tmod b < b :=
  ⟨Int.mul_tdiv_add_tmod a b, Int.lt_tmod_of_pos a hb, Int.tmod_lt_of_pos a hb⟩
theorem floor_is (a b : Int) (hb : 0 < b) : (if a.tmod b < 0 then a.tdiv b - 1 else a.tdiv b) = a / b := by
  obtain ⟨e, h0, h1⟩ := tm_bd a b hb
  split
  · have := uniq a b (a.tdiv b - 1) (a.tmod b + b) hb (by rw [Int.mul_sub]; omega) (by omega) (by omega)
    exact this.1.symm
  · have := uniq a b (a.tdiv b) (a.tmod b) hb e (by omega) h1
    exact this.1.symm
theorem mod_is (a b : Int) (hb : 0 < b) : (a.tmod b + b).tmod b = a % b := by
  obtain ⟨e, h0, h1⟩ := tm_bd a b hb
  rw [Int.tmod_eq_emod_of_nonneg (by omega), Int.add_emod_right]
  have h := Int.add_mul_emod_self_left (a.tmod b) b (a.tdiv b)
  rw [Int.add_comm, e] at h
  exact h.symm
theorem abs_mx (a : Int) : mx a (-a) = (a.natAbs : Int) := by unfold mx; split <;> omega
theorem gcd_pos (num den : Int) (h : den ≠ 0) : 0 < (Int.gcd num den : Int) := by
  have : 0 < Int.gcd num den := Int.gcd_pos_of_ne_zero_right _ h
  omega
theorem tdiv_ex (a g : Int) (h : g ∣ a) : a.tdiv g = a / g := Int.tdiv_eq_ediv_of_dvd h
def gt (a b : Int) : Prop := 0 ≤ a ∧ a ≤ 1000000 ∧ 1 ≤ b ∧ b ≤ 1000
instance (a b : Int) : Decidable (gt a b) := by unfold gt; infer_instance
def gr (a : Int) : Prop := 1 ≤ a ∧ a ≤ 1000
instance (a : Int) : Decidable (gr a) := by unfold gr; infer_instance
def lowN (num den : Int) : Int := (if den < 0 then -num else num) / (Int.gcd num den : Int)
def lowD (num den : Int) : Int := (if den < 0 then -den else den) / (Int.gcd num den : Int)
def placeV (p s num den : Int) : Int := p * den + s * num
def wpV (p s num den : Int) : Int × Int × Bool := if gk p s ∧ gt num den then (lowN (placeV p s num den) den, lowD (placeV p s num den) den, true) else (0, 0, false)
def gapV (p s p' s' num den : Int) : Int := ((placeV p s num den - placeV p' s' num den).natAbs : Int)
def gaV (p s p' s' num den : Int) : Int × Int × Bool := if (gk p s ∧ gk p' s') ∧ gt num den then (lowN (gapV p s p' s' num den) den, lowD (gapV p s p' s' num den) den, true) else (0, 0, false)
def meetV (p s p' s' : Int) : Int × Int × Bool := if p = p' then (0, 1, true) else if s = s' then (0, 0, false) else if lowN (p' - p) (s - s') < 0 then (0, 0, false) else (lowN (p' - p) (s - s'), lowD (p' - p) (s - s'), true)
def mtV (p s p' s' : Int) : Int × Int × Bool := if gk p s ∧ gk p' s' then meetV p s p' s' else (0, 0, false)
def mpV (p s p' s' : Int) : Int × Int × Bool := if (gk p s ∧ gk p' s') ∧ (meetV p s p' s').2.2 = true then (lowN (placeV p s (meetV p s p' s').1 (meetV p s p' s').2.1) (meetV p s p' s').2.1, lowD (placeV p s (meetV p s p' s').1 (meetV p s p' s').2.1) (meetV p s p' s').2.1, true) else (0, 0, false)
def ringV (a p s p' s' : Int) : Int × Int := if s < s' then ((p - p') % a, s' - s) else ((p' - p) % a, s - s')
def ringV' (a p s p' s' : Int) : Int × Int := if s < s' then ((p - p') % a, s' - s) else ((p' - p) % a, s - s')
def rgV (a p s p' s' : Int) : Int × Int × Bool := if ((gr a ∧ gk p s) ∧ gk p' s') ∧ ¬ s = s' then (lowN a ((s - s').natAbs : Int), lowD a ((s - s').natAbs : Int), true) else (0, 0, false)
def crV (a p s p' s' t : Int) : Int × Bool := if (((gr a ∧ gk p s) ∧ gk p' s') ∧ ¬ s = s') ∧ 0 ≤ t ∧ t ≤ 1000 then (if t * (ringV a p s p' s').2 < (ringV a p s p' s').1 then 0 else (t * (ringV a p s p' s').2 - (ringV a p s p' s').1) / a + 1, true) else (0, false)
theorem div_abs (a g : Int) (hg : 1 ≤ g) (B : Int) (h : -B ≤ a ∧ a ≤ B) : -B ≤ a / g ∧ a / g ≤ B := by
  constructor
  · have : -B ≤ a / g ↔ -B * g ≤ a := Int.le_ediv_iff_mul_le (by omega)
    refine this.mpr ?_
    have hB : 0 ≤ B := by omega
    have := Int.mul_le_mul_of_nonneg_left hg hB
    rw [Int.neg_mul]; omega
  · rcases Int.lt_or_le a 0 with h' | h'
    · have : a / g < 0 ↔ a < 0 * g := Int.ediv_lt_iff_lt_mul (by omega)
      have := this.mpr (by omega)
      omega
    · have := Int.ediv_le_self g h'
      omega
theorem low_bd (num den B : Int) (hd : den ≠ 0) (h1 : -B ≤ num ∧ num ≤ B) (h2 : -B ≤ den ∧ den ≤ B) : (-B ≤ lowN num den ∧ lowN num den ≤ B) ∧ (1 ≤ lowD num den ∧ lowD num den ≤ B) := by
  have hg := gcd_pos num den hd
  refine ⟨?_, ?_⟩
  · unfold lowN; exact div_abs _ _ (by omega) B (by split <;> omega)
  · have h := div_abs (if den < 0 then -den else den) (Int.gcd num den : Int) (by omega) B (by split <;> omega)
    unfold lowD
    refine ⟨?_, h.2⟩
    have hd' : (Int.gcd num den : Int) ∣ (if den < 0 then -den else den) := by
      split
      · exact Int.dvd_neg.mpr (Int.gcd_dvd_right ..)
      · exact Int.gcd_dvd_right ..
    have hp : 0 < (if den < 0 then -den else den) := by split <;> omega
    have := Int.ediv_pos_of_pos_of_dvd hp (by omega) hd'
    omega
theorem lowN_neg (num den : Int) (hd : den ≠ 0) : lowN num den < 0 ↔ (if den < 0 then -num else num) < 0 := by
  have hg := gcd_pos num den hd
  unfold lowN
  have : (if den < 0 then -num else num) / (Int.gcd num den : Int) < 0 ↔ (if den < 0 then -num else num) < 0 * (Int.gcd num den : Int) := Int.ediv_lt_iff_lt_mul (by omega)
  rw [Int.zero_mul] at this
  exact this
theorem ediv_min (a g : Int) (h : g ∣ a) (hg : g ≠ 0) : -a / g = -(a / g) := Int.neg_ediv_of_dvd h
theorem abs_mul (a b A B : Int) (h1 : -A ≤ a ∧ a ≤ A) (h2 : 0 ≤ b ∧ b ≤ B) : -(A * B) ≤ a * b ∧ a * b ≤ A * B := by
  have hA : 0 ≤ A := by omega
  have t : A * b ≤ A * B := Int.mul_le_mul_of_nonneg_left h2.2 hA
  have t1 : a * b ≤ A * b := Int.mul_le_mul_of_nonneg_right h1.2 h2.1
  have t2 : -A * b ≤ a * b := Int.mul_le_mul_of_nonneg_right h1.1 h2.1
  rw [Int.neg_mul] at t2
  omega
theorem rdn (l : List Int) (i : Nat) : rd l (i : Int) = l.getD i 0 := by simp [rd]
theorem drop_cons (l : List Int) (i : Nat) (h : i < l.length) : l.drop i = l.getD i 0 :: l.drop (i + 1) := by
  rw [List.drop_eq_getElem_cons h]; simp [List.getD_eq_getElem?_getD, h]
theorem getD_mem (l : List Int) (i : Nat) (h : i < l.length) : l.getD i 0 ∈ l := by
  simp [List.getD_eq_getElem?_getD, h]
theorem round1 {k n : Nat} (h : n < k) : ∃ m, k = m + 1 ∧ n ≤ m := ⟨k - 1, by omega, by omega⟩
def gs (up : Int) (s : List Int) : Prop := (1 ≤ up ∧ up ≤ 1000) ∧ (1 ≤ (s.length : Int) ∧ (s.length : Int) ≤ 12) ∧ ∀ x ∈ s, 0 ≤ x ∧ x ≤ 1000
instance (up : Int) (s : List Int) : Decidable (gs up s) := by unfold gs; infer_instance
/-- The slip of the night behind day j + 1. -/
def sl (s : List Int) (j : Nat) : Int := s.getD (j % s.length) 0
theorem sl_bd (up : Int) (s : List Int) (g : gs up s) (j : Nat) : 0 ≤ sl s j ∧ sl s j ≤ 1000 := by
  obtain ⟨_, h, ha⟩ := g
  exact ha _ (getD_mem s _ (Nat.mod_lt _ (by omega)))
theorem tmod_nat (j n : Nat) : Int.tmod (j : Int) (n : Int) = ((j % n : Nat) : Int) := by
  rw [Int.tmod_eq_emod_of_nonneg (by omega), Int.natCast_emod]
/-- How far it comes at most: rounds left, day, height in the morning, most so far. -/
def gsL (up : Int) (s : List Int) : Nat → Nat → Int → Int → Int
  | 0, _, _, most => most
  | n + 1, j, m, most => gsL up s n (j + 1) (max 0 (m + up - sl s j)) (max most (m + up))
def gwsV (up : Int) (s : List Int) (days : Int) : Int × Bool := if gs up s ∧ gw days then (gsL up s days.toNat 0 0 0, true) else (0, false)
theorem e_eqIntS_l0 (l : List Int) (hl : (l.length : Int) ≤ 9000000000000000000) : ∀ (n i k : Nat), i + n = l.length → n < k → laws_eqIntS.l0 k l l (i : Int) = some true := by
  intro n
  induction n with
  | zero =>
    intro i k hi hk
    obtain ⟨k, rfl, hk⟩ := round1 hk
    simp only [laws_eqIntS.l0]; rw [if_neg (by omega)]
  | succ n ih =>
    intro i k hi hk
    obtain ⟨k, rfl, hk⟩ := round1 hk
    simp only [laws_eqIntS.l0]
    rw [if_pos (by omega), if_pos (by omega), if_pos (by omega), if_true, w64 _ (by omega) (by omega), show ((i : Int) + 1) = ((i + 1 : Nat) : Int) by omega]
    exact ih (i + 1) k (by omega) (by omega)
theorem e_eqIntS (k : Nat) (l : List Int) (hl : (l.length : Int) ≤ 9000000000000000000) (hk : l.length < k) : laws_eqIntS.f k l l = some true := by
  unfold laws_eqIntS.f; rw [if_pos rfl]; exact e_eqIntS_l0 l hl l.length 0 k (by omega) hk
def markL (l : List Int) (c : Int) : Nat → Nat → List Int
  | 0, _ => l
  | n + 1, i => markL (l.set i c) (c + 1) n (i + 1)
theorem markL_length : ∀ (n i : Nat) (l : List Int) (c : Int), (markL l c n i).length = l.length := by
  intro n; induction n with
  | zero => intro i l c; rfl
  | succ n ih => intro i l c; simp [markL, ih]
theorem markL_below : ∀ (n i : Nat) (l : List Int) (c : Int) (j : Nat), j < i → (markL l c n i).getD j 0 = l.getD j 0 := by
  intro n; induction n with
  | zero => intro i l c j h; rfl
  | succ n ih =>
    intro i l c j h
    simp only [markL]; rw [ih (i + 1) _ _ j (by omega)]
    simp only [List.getD_eq_getElem?_getD]; rw [List.getElem?_set_ne (by omega)]
theorem markL_at : ∀ (n i : Nat) (l : List Int) (c : Int) (j : Nat), i + n = l.length → i ≤ j → j < l.length → (markL l c n i).getD j 0 = c + (j - i : Nat) := by
  intro n; induction n with
  | zero => intro i l c j h h1 h2; omega
  | succ n ih =>
    intro i l c j h h1 h2
    simp only [markL]
    rcases Nat.lt_or_ge i j with h3 | h3
    · rw [ih (i + 1) _ _ j (by simp; omega) (by omega) (by simpa using h2)]; omega
    · have e : j = i := by omega
      subst e
      rw [markL_below n (j + 1) _ _ j (by omega)]
      simp [List.getD_eq_getElem?_getD, h2]
theorem e_markIntS_l0 : ∀ (n i k : Nat) (l : List Int) (c : Int), (l.length : Int) ≤ 4000000000000000000 → i + n = l.length → 0 ≤ c → c ≤ 1 + i → n < k → laws_markIntS.l0 k l c (i : Int) = some (c + n, markL l c n i) := by
  intro n
  induction n with
  | zero =>
    intro i k l c hl hi h0 h1 hk
    obtain ⟨k, rfl, hk⟩ := round1 hk
    simp only [laws_markIntS.l0, markL]; rw [if_neg (by omega)]; simp
  | succ n ih =>
    intro i k l c hl hi h0 h1 hk
    obtain ⟨k, rfl, hk⟩ := round1 hk
    simp only [laws_markIntS.l0, markL]
    rw [if_pos (by omega), if_pos (by omega), w64 (c + 1) (by omega) (by omega), w64 _ (by omega) (by omega), show ((i : Int)).toNat = i by omega, show ((i : Int) + 1) = ((i + 1 : Nat) : Int) by omega]
    rw [ih (i + 1) k (l.set i c) (c + 1) (by simpa using hl) (by simp; omega) (by omega) (by omega) (by omega)]
    congr 2; omega
theorem e_markIntS (k : Nat) (l : List Int) (hl : (l.length : Int) ≤ 4000000000000000000) (hk : l.length < k) : laws_markIntS.f k l 1 = some (1 + (l.length : Int), markL l 1 l.length 0) := by
  unfold laws_markIntS.f; exact e_markIntS_l0 l.length 0 k l 1 hl (by omega) (by omega) (by omega) hk
theorem e_heldIntS_l0 (l : List Int) (hl : (l.length : Int) ≤ 4000000000000000000) (h : ∀ j, j < l.length → l.getD j 0 = 1 + j) : ∀ (n i k : Nat) (c : Int), i + n = l.length → c = 1 + i → n < k → laws_heldIntS.l0 k l c (i : Int) = some (c + n) := by
  intro n
  induction n with
  | zero =>
    intro i k c hi hc hk
    obtain ⟨k, rfl, hk⟩ := round1 hk
    simp only [laws_heldIntS.l0]; rw [if_neg (by omega)]; simp
  | succ n ih =>
    intro i k c hi hc hk
    obtain ⟨k, rfl, hk⟩ := round1 hk
    simp only [laws_heldIntS.l0]
    have := h i (by omega)
    rw [if_pos (by omega), if_pos (by omega), rdn, this, if_pos (by omega), w64 (c + 1) (by omega) (by omega), w64 _ (by omega) (by omega), show ((i : Int) + 1) = ((i + 1 : Nat) : Int) by omega]
    rw [ih (i + 1) k (c + 1) (by omega) (by omega) (by omega)]
    congr 1; omega
theorem e_heldIntS (k : Nat) (l : List Int) (hl : (l.length : Int) ≤ 4000000000000000000) (hk : l.length < k) : laws_heldIntS.f k (markL l 1 l.length 0) 1 = some (1 + (l.length : Int)) := by
  unfold laws_heldIntS.f
  have e := markL_length l.length 0 l 1
  have := e_heldIntS_l0 (markL l 1 l.length 0) (by rw [e]; exact hl) (fun j hj => by rw [e] at hj; have := markL_at l.length 0 l 1 j (by omega) (by omega) hj; rw [this]; omega) (markL l 1 l.length 0).length 0 k 1 (by omega) (by omega) (by omega)
  rw [e] at this; exact this
/-- How high it is in the morning before day j + 1, if there is no top. -/
def mor (up : Int) (s : List Int) : Nat → Int
  | 0 => 0
  | j + 1 => max 0 (mor up s j + up - sl s j)
theorem mor_bd (up : Int) (s : List Int) (g : gs up s) : ∀ j : Nat, 0 ≤ mor up s j ∧ mor up s j ≤ j * 1000 := by
  intro j
  induction j with
  | zero => simp [mor]
  | succ j ih =>
    have hs := sl_bd up s g j
    have g1 := g.1
    simp only [mor]
    omega
theorem sl_per (s : List Int) (j : Nat) : sl s (j + s.length) = sl s j := by unfold sl; rw [Nat.add_mod_right]
theorem mor_step (up : Int) (s : List Int) (a : Nat) (h : mor up s (a + s.length) ≤ mor up s a) : ∀ t, mor up s (a + t + s.length) ≤ mor up s (a + t) := by
  intro t
  induction t with
  | zero => exact h
  | succ t ih =>
    have e : a + (t + 1) + s.length = (a + t + s.length) + 1 := by omega
    rw [e, show a + (t + 1) = (a + t) + 1 by omega]
    simp only [mor]
    rw [sl_per s (a + t)]
    omega
theorem mor_never (up w : Int) (s : List Int) (hs : 1 ≤ s.length) (a : Nat) (h : mor up s (a + s.length) ≤ mor up s a) (hb : ∀ i, i < a + s.length → mor up s i + up < w) : ∀ j, mor up s j + up < w := by
  intro j
  induction j using Nat.strongRecOn with
  | ind j ih =>
    rcases Nat.lt_or_ge j (a + s.length) with h1 | h1
    · exact hb j h1
    · have := mor_step up s a h (j - s.length - a)
      rw [show a + (j - s.length - a) + s.length = j by omega, show a + (j - s.length - a) = j - s.length by omega] at this
      have := ih (j - s.length) (by omega)
      omega
/-- What the day of the top is: the first one, or that there is none. -/
def DS (up : Int) (s : List Int) (w : Int) (r : Int × Bool) : Prop :=
  (∃ j : Nat, r = ((j : Int) + 1, true) ∧ mor up s j + up ≥ w ∧ ∀ i, i < j → mor up s i + up < w) ∨ (r = (0, false) ∧ ∀ j, mor up s j + up < w)
theorem DS_one (up : Int) (s : List Int) (w : Int) (r r' : Int × Bool) (h : DS up s w r) (h' : DS up s w r') : r = r' := by
  rcases h with ⟨j, e, a, b⟩ | ⟨e, a⟩ <;> rcases h' with ⟨j', e', a', b'⟩ | ⟨e', a'⟩
  · rcases Nat.lt_trichotomy j j' with h | h | h
    · have := b' j h; omega
    · rw [e, e', h]
    · have := b j' h; omega
  · have := a' j; omega
  · have := a j'; omega
  · rw [e, e']
def toI (x : S30) : S33 := ⟨x.f0, x.f1⟩
theorem getD_map_toI (l : List S30) (i : Nat) (h : i < l.length) : (l.map toI).getD i z33 = toI (l.getD i z30) := by
  simp [List.getD_eq_getElem?_getD, h]
theorem set_take_dropS (l m : List S33) (i : Nat) (h : i < l.length) (h' : i < m.length) : (l.take i ++ m.drop i).set i (l.getD i z33) = l.take (i + 1) ++ m.drop (i + 1) := by
  have hl : (l.take i).length = i := by simp; omega
  rw [List.set_append_right _ _ (by omega), hl, Nat.sub_self, List.drop_eq_getElem_cons h', List.set_cons_zero, List.take_succ_eq_append_getElem h, List.append_assoc]
  simp [List.getD_eq_getElem?_getD, h]
theorem e_toWalkerS_l0 (l : List S30) (hl : (l.length : Int) ≤ 9000000000000000000) : ∀ (n i k : Nat), i + n = l.length → n < k → laws_toWalkerS.l0 k l ((l.map toI).take i ++ (List.replicate l.length z33).drop i) (i : Int) = some (l.map toI) := by
  intro n
  induction n with
  | zero =>
    intro i k hi hk
    obtain ⟨k, rfl, hk⟩ := round1 hk
    simp only [laws_toWalkerS.l0]
    rw [if_neg (by omega), List.take_of_length_le (by simp; omega), List.drop_eq_nil_of_le (by simp; omega), List.append_nil]
  | succ n ih =>
    intro i k hi hk
    obtain ⟨k, rfl, hk⟩ := round1 hk
    simp only [laws_toWalkerS.l0, e_toWalker, Option.bind_some]
    rw [if_pos (by omega), if_pos (by omega), if_pos (by simp; omega), w64 _ (by omega) (by omega), show ((i : Int)).toNat = i by omega, show ((i : Int) + 1) = ((i + 1 : Nat) : Int) by omega]
    have e : (⟨(rd_T30 l (i : Int)).f0, (rd_T30 l (i : Int)).f1⟩ : S33) = (l.map toI).getD i z33 := by
      rw [getD_map_toI l i (by omega)]; unfold rd_T30 toI; rw [show ((i : Int)).toNat = i by omega]
    rw [e, set_take_dropS _ _ i (by simp; omega) (by simp; omega)]
    exact ih (i + 1) k (by omega) (by omega)
theorem e_toWalkerS (k : Nat) (l : List S30) (hl : l.length ≤ 1048576) (hk : l.length < k) : laws_toWalkerS.f k l = some (l.map toI) := by
  unfold laws_toWalkerS.f
  rw [if_pos (by omega), if_pos (by omega)]
  have := e_toWalkerS_l0 l (by omega) l.length 0 k (by omega) hk
  simpa using this
theorem e_szWalkerS (l : List S30) (hm : l.length ≤ maxLen) : laws_szWalkerS.f l 1048576 = some (if (l.length : Int) > 1048576 then -1 else 1048576 - (l.length : Int)) := by
  unfold maxLen at hm
  unfold laws_szWalkerS.f
  rw [w64 _ (by omega) (by omega)]
  split <;> split <;> first | rfl | omega
theorem e_eqWalker (a b : Int) : laws_eqWalker.f a b a b = some true := by
  unfold laws_eqWalker.f; simp
theorem e_eqWalkerS_l0 (l : List S33) (hl : (l.length : Int) ≤ 9000000000000000000) : ∀ (n i k : Nat), i + n = l.length → n < k → laws_eqWalkerS.l0 k l l (i : Int) = some true := by
  intro n
  induction n with
  | zero =>
    intro i k hi hk
    obtain ⟨k, rfl, hk⟩ := round1 hk
    simp only [laws_eqWalkerS.l0]; rw [if_neg (by omega)]
  | succ n ih =>
    intro i k hi hk
    obtain ⟨k, rfl, hk⟩ := round1 hk
    simp only [laws_eqWalkerS.l0, e_eqWalker, Option.bind_some]
    rw [if_pos (by omega), if_pos (by omega), if_pos (by omega), if_true, w64 _ (by omega) (by omega), show ((i : Int) + 1) = ((i + 1 : Nat) : Int) by omega]
    exact ih (i + 1) k (by omega) (by omega)
theorem e_eqWalkerS (k : Nat) (l : List S33) (hl : (l.length : Int) ≤ 9000000000000000000) (hk : l.length < k) : laws_eqWalkerS.f k l l = some true := by
  unfold laws_eqWalkerS.f; rw [if_pos rfl]; exact e_eqWalkerS_l0 l hl l.length 0 k (by omega) hk
def ws (l : List S33) : Prop := (1 ≤ (l.length : Int) ∧ (l.length : Int) ≤ 8) ∧ ∀ x ∈ l, gk x.f0 x.f1
instance (l : List S33) : Decidable (ws l) := by unfold ws; infer_instance
theorem drop_consS (l : List S33) (i : Nat) (h : i < l.length) : l.drop i = l.getD i z33 :: l.drop (i + 1) := by
  rw [List.drop_eq_getElem_cons h]; simp [List.getD_eq_getElem?_getD, h]
theorem rdS (l : List S33) (i : Nat) : rd_T33 l (i : Int) = l.getD i z33 := by unfold rd_T33; simp
theorem e_meAll_l0 (l : List S33) (hl : (l.length : Int) ≤ 9000000000000000000) : ∀ (n i k : Nat), i + n = l.length → n < k → spec_meAll.l0 k l (l.length : Int) (i : Int) = some (decide (∀ x ∈ l.drop i, gk x.f0 x.f1)) := by
  intro n
  induction n with
  | zero =>
    intro i k hi hk
    obtain ⟨k, rfl, hk⟩ := round1 hk
    simp only [spec_meAll.l0]
    rw [if_neg (by omega), List.drop_eq_nil_of_le (by omega)]; simp
  | succ n ih =>
    intro i k hi' hk
    obtain ⟨k, rfl, hk⟩ := round1 hk
    simp only [spec_meAll.l0]
    rw [if_pos (by omega), if_pos (by omega), if_pos (by omega), rdS, e_meGood, drop_consS l i (by omega), w64 _ (by omega) (by omega)]
    have e : ((i : Int) + 1) = ((i + 1 : Nat) : Int) := by omega
    rw [e, ih (i + 1) k (by omega) (by omega)]
    simp only [Option.bind_some, decide_eq_true_eq, List.forall_mem_cons]
    by_cases h : gk (l.getD i z33).f0 (l.getD i z33).f1
    · rw [if_pos h]; congr 1; exact decide_eq_decide.mpr ⟨fun z => ⟨h, z⟩, fun z => z.2⟩
    · rw [if_neg h]; congr 1; symm; rw [decide_eq_false_iff_not]; exact fun z => h z.1
theorem e_meAll (k : Nat) (l : List S33) (hl : (l.length : Int) ≤ 9000000000000000000) (hk : l.length < k) : spec_meAll.f k l = some (decide (ws l)) := by
  unfold spec_meAll.f ws
  have := e_meAll_l0 l hl l.length 0 k (by omega) hk
  rw [e_l1In]; simp only [Option.bind_some, decide_eq_true_eq]
  by_cases h : 1 ≤ (l.length : Int) ∧ (l.length : Int) ≤ 8
  · rw [if_pos h]; simp only [h, true_and, and_self]; exact this
  · rw [if_neg h]; simp only [h, false_and, decide_false]
theorem e_AreWalkers (l : List S33) (hl : (l.length : Int) ≤ 9000000000000000000) : impl_AreWalkers.f l = some (decide (ws l)) := by
  unfold impl_AreWalkers.f ws; rw [if_pos hl]
  congr 1
  rw [Bool.eq_iff_iff]
  simp only [Bool.and_eq_true, decide_eq_true_eq, List.all_eq_true, impl_AreWalkers.q, gk]
  exact decide_eq_true_iff.symm
def gtr (lap p s : Int) : Prop := (2 ≤ lap ∧ lap ≤ 1000) ∧ (0 ≤ p ∧ p ≤ lap - 1) ∧ 1 ≤ s ∧ s ≤ 100
instance (lap p s : Int) : Decidable (gtr lap p s) := by unfold gtr; infer_instance
def grt (t : Int) : Prop := 0 ≤ t ∧ t ≤ 1000000
instance (t : Int) : Decidable (grt t) := by unfold grt; infer_instance
def glp (t : Int) : Prop := 1 ≤ t ∧ t ≤ 100
instance (t : Int) : Decidable (glp t) := by unfold glp; infer_instance
theorem evs {α : Type} {g f : Nat → Option α} {r : α} (K : Nat) (h : ∀ k, K ≤ k → g (k + 1) = f k) (k : Ev f r) : Ev g r := by
  obtain ⟨K', k⟩ := k
  refine ⟨max K K' + 1, fun n hn => ?_⟩
  obtain ⟨m, rfl⟩ : ∃ m, n = m + 1 := ⟨n - 1, by omega⟩
  rw [h m (by omega)]
  exact k m (by omega)
theorem low_neg (a b : Int) (hb : b ≠ 0) : lowN (-a) (-b) = lowN a b ∧ lowD (-a) (-b) = lowD a b := by
  have e : Int.gcd (-a) (-b) = Int.gcd a b := by simp [Int.gcd]
  unfold lowN lowD
  rw [e]
  by_cases h : b < 0
  · rw [if_pos h, if_pos h, if_neg (by omega), if_neg (by omega)]; exact ⟨rfl, rfl⟩
  · rw [if_neg h, if_neg h, if_pos (by omega), if_pos (by omega), Int.neg_neg, Int.neg_neg]; exact ⟨rfl, rfl⟩
theorem meet_sym (p s p' s' : Int) : meetV p s p' s' = meetV p' s' p s := by
  unfold meetV
  by_cases h : p = p'
  · rw [if_pos h, if_pos h.symm]
  · by_cases h2 : s = s'
    · rw [if_neg h, if_neg (fun z : p' = p => h z.symm), if_pos h2, if_pos h2.symm]
    · have q := low_neg (p' - p) (s - s') (by omega)
      rw [show -(p' - p) = p - p' by omega, show -(s - s') = s' - s by omega] at q
      rw [if_neg h, if_neg (fun z : p' = p => h z.symm), if_neg h2, if_neg (fun z : s' = s => h2 z.symm), q.1, q.2]
theorem low_cross (a b : Int) (hb : b ≠ 0) : lowN a b * b = lowD a b * a := by
  have hg := gcd_pos a b hb
  obtain ⟨u, hu⟩ : (Int.gcd a b : Int) ∣ a := Int.gcd_dvd_left ..
  obtain ⟨v, hv⟩ : (Int.gcd a b : Int) ∣ b := Int.gcd_dvd_right ..
  unfold lowN lowD
  generalize (Int.gcd a b : Int) = g at *
  subst hu hv
  by_cases h : g * v < 0
  · rw [if_pos h, if_pos h, show -(g * u) = g * (-u) by rw [Int.mul_neg], show -(g * v) = g * (-v) by rw [Int.mul_neg], Int.mul_ediv_cancel_left _ (by omega), Int.mul_ediv_cancel_left _ (by omega)]
    rw [Int.neg_mul, Int.neg_mul, Int.mul_left_comm u g v, Int.mul_left_comm v g u, Int.mul_comm u v]
  · rw [if_neg h, if_neg h, Int.mul_ediv_cancel_left _ (by omega), Int.mul_ediv_cancel_left _ (by omega)]
    rw [Int.mul_left_comm u g v, Int.mul_left_comm v g u, Int.mul_comm u v]
/-- Where they meet: the time times the difference of speeds is the gap. -/
theorem meet_cross (p s p' s' : Int) (h : (meetV p s p' s').2.2 = true) (hp : p ≠ p') : (meetV p s p' s').1 * (s - s') = (meetV p s p' s').2.1 * (p' - p) ∧ s ≠ s' := by
  unfold meetV at h ⊢
  rw [if_neg hp] at h ⊢
  by_cases h2 : s = s'
  · rw [if_pos h2] at h; simp at h
  · rw [if_neg h2] at h ⊢
    by_cases h3 : lowN (p' - p) (s - s') < 0
    · rw [if_pos h3] at h; simp at h
    · rw [if_neg h3]
      exact ⟨low_cross _ _ (by omega), h2⟩
/-- One that is faster and behind is met. -/
theorem meet_ok (p s p' s' : Int) (hp : p < p') (hs : s > s') : (meetV p s p' s').2.2 = true := by
  unfold meetV
  have q := lowN_neg (p' - p) (s - s') (by omega)
  rw [if_neg (by omega), if_neg (by omega), if_neg]
  intro z
  have := q.mp z
  rw [if_neg (by omega)] at this
  omega
theorem mul_pos' {a b : Int} (ha : 0 < a) (hb : 0 < b) : 0 < a * b := Int.mul_pos ha hb
/-- a/b ≤ x/y and x/y ≤ u/v. -/
theorem frac_trans (a b x y u v : Int) (hb : 0 < b) (hy : 0 < y) (hv : 0 < v) (h1 : a * y ≤ x * b) (h2 : x * v ≤ u * y) : a * v ≤ u * b := by
  have e1 : a * y * v ≤ x * b * v := Int.mul_le_mul_of_nonneg_right h1 (by omega)
  have e2 : x * v * b ≤ u * y * b := Int.mul_le_mul_of_nonneg_right h2 (by omega)
  have e3 : (a * v) * y ≤ (u * b) * y := by
    rw [show (a * v) * y = a * y * v by rw [Int.mul_right_comm], show (u * b) * y = u * y * b by rw [Int.mul_right_comm]]
    rw [show x * b * v = x * v * b by rw [Int.mul_right_comm]] at e1
    omega
  exact Int.le_of_mul_le_mul_right e3 hy
theorem e_markWalkerS_l0 : ∀ (n i k : Nat) (l : List S33) (c : Int), l.length ≤ 1048576 → i + n = l.length → 0 ≤ c → c ≤ 1 + 2 * i → n < k → ∃ m, laws_markWalkerS.l0 k l c (i : Int) = some (c + 2 * n, m) := by
  intro n; induction n with
  | zero =>
    intro i k l c hl hi hc hc2 hk
    obtain ⟨k, rfl⟩ : ∃ m, k = m + 1 := ⟨k - 1, by omega⟩
    simp only [laws_markWalkerS.l0]
    rw [if_neg (by omega)]
    exact ⟨l, by simp⟩
  | succ n ih =>
    intro i k l c hl hi hc hc2 hk
    obtain ⟨k, rfl⟩ : ∃ m, k = m + 1 := ⟨k - 1, by omega⟩
    simp only [laws_markWalkerS.l0]
    rw [if_pos (by omega), if_pos (by omega)]
    simp only [Option.bind_some]
    rw [w64 (c + 1) (by omega) (by omega), w64 (c + 1 + 1) (by omega) (by omega), w64 ((i : Int) + 1) (by omega) (by omega), show ((i : Int) + 1) = ((i + 1 : Nat) : Int) by omega]
    obtain ⟨m, hm⟩ := ih (i + 1) k ((l.set ((i : Int)).toNat ⟨c, (rd_T33 l (i : Int)).f1⟩).set ((i : Int)).toNat ⟨(rd_T33 (l.set ((i : Int)).toNat ⟨c, (rd_T33 l (i : Int)).f1⟩) (i : Int)).f0, c + 1⟩) (c + 1 + 1) (by rw [List.length_set, List.length_set]; exact hl) (by rw [List.length_set, List.length_set]; omega) (by omega) (by omega) (by omega)
    exact ⟨m, by rw [hm]; congr 2; omega⟩
theorem e_markWalkerS (k : Nat) (l : List S33) (hl : l.length ≤ 1048576) (hk : l.length < k) : ∃ m, laws_markWalkerS.f k l 1 = some (1 + 2 * (l.length : Int), m) := by
  unfold laws_markWalkerS.f
  exact e_markWalkerS_l0 l.length 0 k l 1 hl (by omega) (by omega) (by omega) hk

def vN (i : Nat) : Value := .int .i64 i
def posn (lt : Nat → Nat → Bool) (x : Nat) (o : List Nat) : Nat → Nat
  | 0 => 0
  | k + 1 => if lt x (o.getD k 0) = true then posn lt x o k else k + 1
def insN (lt : Nat → Nat → Bool) (x : Nat) (o : List Nat) (j : Nat) : List Nat := o.take (posn lt x o j) ++ x :: o.drop (posn lt x o j)
def ordN (lt : Nat → Nat → Bool) : Nat → List Nat
  | 0 => []
  | i + 1 => insN lt i (ordN lt i) i
theorem posn_le (lt : Nat → Nat → Bool) (x : Nat) (o : List Nat) : ∀ k, posn lt x o k ≤ k := by
  intro k; induction k with
  | zero => exact Nat.le_refl _
  | succ k ih => simp only [posn]; split <;> omega
theorem ordN_len (lt : Nat → Nat → Bool) : ∀ i, (ordN lt i).length = i := by
  intro i; induction i with
  | zero => rfl
  | succ i ih =>
    have := posn_le lt i (ordN lt i) i
    simp only [ordN, insN, List.length_append, List.length_take, List.length_cons, List.length_drop, ih]; omega
theorem ordN_lt (lt : Nat → Nat → Bool) : ∀ i, ∀ x ∈ ordN lt i, x < i := by
  intro i; induction i with
  | zero => intro x hx; simp [ordN] at hx
  | succ i ih =>
    intro x hx
    simp only [ordN, insN, List.mem_append, List.mem_cons] at hx
    rcases hx with h | h | h
    · have := ih x (List.mem_of_mem_take h); omega
    · omega
    · have := ih x (List.mem_of_mem_drop h); omega
theorem swpV_app (a b : Value) (R : List Value) : ∀ A : List Value, swpV (A ++ a :: b :: R) A.length = A ++ b :: a :: R := by
  intro A
  unfold swpV
  have e1 : (A ++ a :: b :: R).getD A.length undef = a := by simp [List.getD_eq_getElem?_getD]
  have e2 : (A ++ a :: b :: R).getD (A.length + 1) undef = b := by simp [List.getD_eq_getElem?_getD, List.getElem?_append]
  rw [e1, e2, List.set_append_right _ _ (by omega), List.set_append_right _ _ (by omega)]
  simp
theorem insJ_ins (c : Value → Value → Int) (lt : Nat → Nat → Bool) (hc : ∀ i k : Nat, c (vN i) (vN k) < 0 ↔ lt i k = true) (x : Nat) (o : List Nat) (rest : List Value) : ∀ j, j ≤ o.length → insJ c j ((o.take j).map vN ++ vN x :: ((o.drop j).map vN ++ rest)) = (o.take (posn lt x o j)).map vN ++ vN x :: ((o.drop (posn lt x o j)).map vN ++ rest) := by
  intro j; induction j with
  | zero => intro _; simp [insJ, posn]
  | succ j ih =>
    intro hj
    have hjl : j < o.length := by omega
    have ed : o.drop j = o[j] :: o.drop (j + 1) := List.drop_eq_getElem_cons hjl
    have et : (o.take (j + 1)).map vN ++ vN x :: ((o.drop (j + 1)).map vN ++ rest) = (o.take j).map vN ++ vN o[j] :: vN x :: ((o.drop (j + 1)).map vN ++ rest) := by
      rw [List.take_succ_eq_append_getElem hjl, List.map_append]; simp only [List.map_cons, List.map_nil, List.append_assoc, List.cons_append, List.nil_append]
    have el : ((o.take j).map vN).length = j := by simp; omega
    have eo : o.getD j 0 = o[j] := by simp [List.getD_eq_getElem?_getD, hjl]
    have e1 : ((o.take j).map vN ++ vN o[j] :: vN x :: ((o.drop (j + 1)).map vN ++ rest)).getD j undef = vN o[j] := by
      simp [List.getD_eq_getElem?_getD, List.getElem?_append, Nat.min_eq_left (Nat.le_of_lt hjl)]
    have e2 : ((o.take j).map vN ++ vN o[j] :: vN x :: ((o.drop (j + 1)).map vN ++ rest)).getD (j + 1) undef = vN x := by
      simp [List.getD_eq_getElem?_getD, List.getElem?_append, Nat.min_eq_left (Nat.le_of_lt hjl)]
    have es := swpV_app (vN o[j]) (vN x) ((o.drop (j + 1)).map vN ++ rest) ((o.take j).map vN)
    rw [el] at es
    simp only [insJ, posn]
    rw [et, e1, e2, eo]
    by_cases h : lt x o[j] = true
    · rw [if_pos h, if_pos ((hc _ _).mpr h), es]
      have := ih (by omega)
      rw [ed] at this
      simp only [List.map_cons, List.cons_append] at this
      exact this
    · rw [if_neg h, if_neg (fun z => h ((hc _ _).mp z)), ← et]
theorem insI_ord (c : Value → Value → Int) (lt : Nat → Nat → Bool) (hc : ∀ i k : Nat, c (vN i) (vN k) < 0 ↔ lt i k = true) : ∀ (m i : Nat), insI c m i ((ordN lt i).map vN ++ (List.range' i m).map vN) = (ordN lt (i + m)).map vN := by
  intro m; induction m with
  | zero => intro i; simp [insI]
  | succ m ih =>
    intro i
    have h := insJ_ins c lt hc i (ordN lt i) ((List.range' (i + 1) m).map vN) i (by rw [ordN_len]; exact Nat.le_refl _)
    have e1 : (ordN lt i).take i = ordN lt i := List.take_of_length_le (by rw [ordN_len]; exact Nat.le_refl _)
    have e2 : (ordN lt i).drop i = [] := List.drop_of_length_le (by rw [ordN_len]; exact Nat.le_refl _)
    rw [e1, e2] at h
    simp only [List.map_nil, List.nil_append] at h
    simp only [insI, List.range'_succ, List.map_cons]
    rw [h]
    have := ih (i + 1)
    rw [show i + 1 + m = i + (m + 1) by omega] at this
    rw [← this]
    congr 1
    simp [ordN, insN]
theorem orderV_ord (cc : S33 → S33 → Int) (l : List S33) (hl : 1 ≤ l.length) : orderV cc l = (ordN (fun i k => decide (cc (l.getD i z33) (l.getD k z33) < 0)) l.length).map fun i : Nat => (i : Int) := by
  unfold orderV
  have h := insI_ord (ciV cc l) (fun i k => decide (cc (l.getD i z33) (l.getD k z33) < 0)) (fun i k => by simp [ciV, ixV, vN]) (l.length - 1) 1
  have e : fillV l.length l.length = (ordN (fun i k => decide (cc (l.getD i z33) (l.getD k z33) < 0)) 1).map vN ++ (List.range' 1 (l.length - 1)).map vN := by
    rw [← List.map_append]
    have e1 : ordN (fun i k => decide (cc (l.getD i z33) (l.getD k z33) < 0)) 1 = [0] := rfl
    rw [e1]
    have e2 : [0] ++ List.range' 1 (l.length - 1) = List.range l.length := by
      rw [List.range_eq_range', show l.length = (l.length - 1) + 1 by omega, List.range'_succ]; simp
    rw [e2]
    unfold fillV
    apply List.map_congr_left
    intro i hi
    rw [if_pos (List.mem_range.mp hi)]; rfl
  rw [e, h, show 1 + (l.length - 1) = l.length by omega, List.map_map]
  rfl
theorem rdI (o : List Nat) (j : Nat) : rd (o.map fun i : Nat => (i : Int)) (j : Int) = ((o.getD j 0 : Nat) : Int) := by
  unfold rd
  simp only [Int.toNat_natCast, List.getD_eq_getElem?_getD, List.getElem?_map]
  cases o[j]? <;> rfl
theorem s_l1 (lt : Nat → Nat → Bool) (keys : List (List Int)) (hk : keys.length ≤ 100) (o : List Nat) (i : Nat) (hi : i < keys.length) (ho : ∀ x ∈ o, x < keys.length) (hol : o.length ≤ 100) (hb : ∀ k j, 5 ≤ k → j < keys.length → spec_meBefore.f k (rd_L3 keys (i : Int)) (rd_L3 keys (j : Int)) = some (lt i j)) (r : List Int) : ∀ j, j ≤ o.length →
    Ev (fun k => spec_meOrder.l0 k keys ((insN lt i o j).map fun x : Nat => (x : Int)) keys (keys.length : Int) ((i + 1 : Nat) : Int)) r → Ev (fun k => spec_meOrder.l1 k keys (o.map fun x : Nat => (x : Int)) (i : Int) (rd_L3 keys (i : Int)) (j : Int) keys (keys.length : Int) (i : Int)) r := by
  have fin : ∀ j, j ≤ o.length → posn lt i o j = j → ∀ q, (if 0 ≤ (j : Int) then (if (j : Int) ≤ ((o.map fun x : Nat => (x : Int)).length : Int) then ((spec_l1Own.f ((o.map fun x : Nat => (x : Int)).take (j : Int).toNat)).bind fun t149 => (if t149.length < 17592186044416 then ((some (t149 ++ [(i : Int)] : List Int)).bind fun y152 => ((some ((o.map fun x : Nat => (x : Int)).drop (j : Int).toNat : List Int)).bind fun y155 => (if y152.length + y155.length < 17592186044416 then (spec_meOrder.l0 q keys (y152 ++ y155) keys (keys.length : Int) (wrap64 ((i : Int) + 1))) else (none)))) else (none))) else (none)) else (none)) = spec_meOrder.l0 q keys ((insN lt i o j).map fun x : Nat => (x : Int)) keys (keys.length : Int) ((i + 1 : Nat) : Int) := by
    intro j hj hp q
    rw [if_pos (by omega), if_pos (by rw [List.length_map]; omega)]
    unfold spec_l1Own.f
    simp only [Option.bind_some, List.nil_append, Int.toNat_natCast, List.length_nil, List.length_take, List.length_map, List.length_append, List.length_drop, List.length_cons]
    rw [if_pos (by omega)]
    simp only [Option.bind_some, List.length_take, List.length_map]
    rw [if_pos (by omega), if_pos (by omega), w64 _ (by omega) (by omega), show ((i : Int) + 1) = ((i + 1 : Nat) : Int) by omega]
    congr 1
    unfold insN; rw [hp]; simp
  intro j; induction j with
  | zero =>
    intro hj he
    refine Ev.step (fun q => ?_) he
    simp only [spec_meOrder.l1]
    rw [if_neg (by omega)]
    exact fin 0 hj rfl q
  | succ j ih =>
    intro hj he
    have hjl : j < o.length := by omega
    have hm : o.getD j 0 < keys.length := ho _ (by simp [List.getD_eq_getElem?_getD, hjl])
    by_cases h : lt i (o.getD j 0) = true
    · have e : insN lt i o (j + 1) = insN lt i o j := by unfold insN; simp only [posn]; rw [if_pos h]
      rw [e] at he
      refine evs 6 (fun q hq => ?_) (ih (by omega) he)
      simp only [spec_meOrder.l1]
      rw [w64 (((j + 1 : Nat) : Int) - 1) (by omega) (by omega), show ((j + 1 : Nat) : Int) - 1 = (j : Int) by omega, rdI, hb q _ (by omega) hm]
      rw [if_pos (by omega), if_pos (by omega), if_pos (by rw [List.length_map]; omega), if_pos (by omega), if_pos (by omega)]
      simp only [Option.bind_some]
      rw [if_pos h]
    · refine evs 6 (fun q hq => ?_) he
      simp only [spec_meOrder.l1]
      rw [w64 (((j + 1 : Nat) : Int) - 1) (by omega) (by omega), show ((j + 1 : Nat) : Int) - 1 = (j : Int) by omega, rdI, hb q _ (by omega) hm]
      rw [if_pos (by omega), if_pos (by omega), if_pos (by rw [List.length_map]; omega), if_pos (by omega), if_pos (by omega)]
      simp only [Option.bind_some]
      rw [if_neg h]
      exact fin (j + 1) hj (by simp only [posn]; rw [if_neg h]) q
theorem s_l0o (lt : Nat → Nat → Bool) (keys : List (List Int)) (hk : keys.length ≤ 100) (hb : ∀ k i j, 5 ≤ k → i < keys.length → j < keys.length → spec_meBefore.f k (rd_L3 keys (i : Int)) (rd_L3 keys (j : Int)) = some (lt i j)) : ∀ m i, i + m = keys.length → Ev (fun k => spec_meOrder.l0 k keys ((ordN lt i).map fun x : Nat => (x : Int)) keys (keys.length : Int) (i : Int)) ((ordN lt keys.length).map fun x : Nat => (x : Int)) := by
  intro m; induction m with
  | zero =>
    intro i hi
    simp only [Nat.add_zero] at hi; subst hi
    refine Ev.step (f := fun _ => some _) (fun k => ?_) (Ev.now _)
    simp only [spec_meOrder.l0]; rw [if_neg (by omega)]
  | succ m ih =>
    intro i hi
    have h := s_l1 lt keys hk (ordN lt i) i (by omega) (fun x hx => by have := ordN_lt lt i x hx; omega) (by rw [ordN_len]; omega) (fun k j h1 h2 => hb k i j h1 (by omega) h2) _ (ordN lt i).length (Nat.le_refl _) (by rw [ordN_len]; exact ih (i + 1) (by omega))
    refine Ev.step (fun k => ?_) h
    simp only [spec_meOrder.l0]
    rw [if_pos (by omega), if_pos (by omega), if_pos (by omega)]
    simp only [List.length_map]
theorem e_meOrder (lt : Nat → Nat → Bool) (keys : List (List Int)) (hk : keys.length ≤ 100) (hb : ∀ k i j, 5 ≤ k → i < keys.length → j < keys.length → spec_meBefore.f k (rd_L3 keys (i : Int)) (rd_L3 keys (j : Int)) = some (lt i j)) : Ev (fun k => spec_meOrder.f k keys) ((ordN lt keys.length).map fun x : Nat => (x : Int)) :=
  s_l0o lt keys hk hb keys.length 0 (by omega)
theorem rd1 (a : Int) : rd [a] 0 = a := rfl
theorem bef1 (k : Nat) (a b : Int) (hk : 5 ≤ k) : spec_meBefore.f k [a] [b] = some (decide (a < b)) := by
  obtain ⟨k, rfl⟩ : ∃ m, k = m + 2 := ⟨k - 2, by omega⟩
  unfold spec_meBefore.f
  simp only [spec_meBefore.l0, List.length_cons, List.length_nil, rd1]
  rw [if_pos (by omega), if_pos (by omega), if_pos (by omega), if_pos (by omega)]
  by_cases e : a = b
  · subst e; rw [if_pos rfl, w64 _ (by omega) (by omega), if_neg (by omega)]; simp
  · rw [if_neg e]
    first | done | rfl | congr
theorem rd2a (a b : Int) : rd [a, b] 0 = a := rfl
theorem rd2b (a b : Int) : rd [a, b] 1 = b := rfl
theorem bef2 (k : Nat) (a b c d : Int) (hk : 5 ≤ k) : spec_meBefore.f k [a, b] [c, d] = some (decide (a < c ∨ a = c ∧ b < d)) := by
  obtain ⟨k, rfl⟩ : ∃ m, k = m + 3 := ⟨k - 3, by omega⟩
  unfold spec_meBefore.f
  simp only [spec_meBefore.l0, List.length_cons, List.length_nil, rd2a]
  rw [if_pos (by omega), if_pos (by omega), if_pos (by omega), if_pos (by omega)]
  by_cases e : a = c
  · subst e
    rw [if_pos rfl, w64 _ (by omega) (by omega)]
    simp only [Int.zero_add, rd2b]
    rw [if_pos (by omega), if_pos (by omega), if_pos (by omega), if_pos (by omega)]
    by_cases e : b = d
    · subst e; rw [if_pos rfl, w64 _ (by omega) (by omega), if_neg (by omega)]; simp
    · rw [if_neg e]; simp
      all_goals (first | done | rfl | congr)
  · rw [if_neg e]; simp [e]
    all_goals (first | done | rfl | congr)
theorem cmp3_neg (a b : Int) : cmp3 a b < 0 ↔ a < b := by
  unfold cmp3; split
  · omega
  · split <;> omega
theorem rdK (l : List S33) (key : S33 → List Int) (i : Nat) (h : i < l.length) : rd_L3 (l.map key) (i : Int) = key (l.getD i z33) := by
  unfold rd_L3; simp [List.getD_eq_getElem?_getD, h]
theorem take_snocK (l : List S33) (key : S33 → List Int) (i : Nat) (h : i < l.length) : (l.take i).map key ++ [key (l.getD i z33)] = (l.take (i + 1)).map key := by
  rw [List.take_succ_eq_append_getElem h, List.map_append]; simp only [List.map_cons, List.map_nil, List.getD_eq_getElem?_getD, List.getElem?_eq_getElem h, Option.getD_some]
theorem lexV_neg (x y : S33) : lexV x y < 0 ↔ (x.f1 < y.f1 ∨ x.f1 = y.f1 ∧ x.f0 < y.f0) := by
  unfold lexV cmp3
  split <;> split <;> (try split) <;> (try split) <;> omega
theorem lor_keys (l : List S33) (hl : (l.length : Int) ≤ 8) (r : List Int) (he : Ev (fun k => spec_meOrder.f k (l.map fun x => [x.f1, x.f0])) r) : ∀ m i, i + m = l.length → Ev (fun k => spec_LastOrder.l0 k ((l.take i).map fun x => [x.f1, x.f0]) l (l.length : Int) (i : Int)) (r, true) := by
  intro m; induction m with
  | zero =>
    intro i hi
    simp only [Nat.add_zero] at hi
    obtain ⟨K, hK⟩ := he
    refine ⟨K + 1, fun k hk => ?_⟩
    obtain ⟨q, rfl⟩ : ∃ q, k = q + 1 := ⟨k - 1, by omega⟩
    have e := hK q (by omega)
    simp only at e
    simp only [spec_LastOrder.l0]
    rw [if_neg (by omega), List.take_of_length_le (by omega), e]; rfl
  | succ m ih =>
    intro i hi
    refine Ev.step (fun k => ?_) (ih (i + 1) (by omega))
    simp only [spec_LastOrder.l0]
    rw [if_pos (by omega), if_pos (by omega), if_pos (by omega), if_pos (by rw [List.length_map, List.length_take]; omega), w64 ((i : Int) + 1) (by omega) (by omega), show ((i : Int) + 1) = ((i + 1 : Nat) : Int) by omega, ← take_snocK l (fun x => [x.f1, x.f0]) i (by omega), rdS]
theorem lor_all (l : List S33) (hl : (l.length : Int) ≤ 1048576) : ∃ v : List Int × Bool, v.1.length ≤ 9 ∧ impl_LastOrder.f l = some v ∧ ∃ K, ∀ k, K ≤ k → spec_LastOrder.f k l = some v := by
  unfold impl_LastOrder.f
  rw [e_AreWalkers l (by omega)]
  by_cases hw : ws l
  · have h8 : l.length ≤ 8 := by have := hw.1; omega
    simp only [decide_eq_true hw, Option.bind_some, if_true]
    have ho := orderV_ord lexV l (by have := hw.1; omega)
    have hm := e_meOrder (fun i k => decide (lexV (l.getD i z33) (l.getD k z33) < 0)) (l.map fun x => [x.f1, x.f0]) (by rw [List.length_map]; omega) (fun k i j hk hi hj => by
      rw [List.length_map] at hi hj
      rw [rdK l _ i hi, rdK l _ j hj, bef2 k _ _ _ _ hk]
      congr 1
      exact decide_eq_decide.mpr (lexV_neg _ _).symm)
    rw [List.length_map] at hm
    obtain ⟨K, hK⟩ := lor_keys l hw.1.2 _ hm l.length 0 (by omega)
    refine ⟨_, ?_, rfl, K + 10000000, fun k hk => ?_⟩
    · rw [ho]; simp [ordN_len]; omega
    · unfold spec_LastOrder.f
      rw [e_meAll k l (by omega) (by omega)]
      simp only [decide_eq_true hw, Option.bind_some, if_true]
      have e := hK k (by omega)
      simp only [List.take_zero, List.map_nil] at e
      rw [ho]; exact e
  · refine ⟨([], false), by simp, by simp [hw], 10000000, fun k hk => ?_⟩
    unfold spec_LastOrder.f
    rw [e_meAll k l (by omega) (by omega)]
    simp [hw]

theorem FnExactLastOrder : ∀ (l0 : List S30), l0.length ≤ maxLen → (∀ x ∈ l0, (Lit.int .i64 x.f0).wf = true ∧ (Lit.int .i64 x.f1).wf = true) → ∃ k, laws_FnExactLastOrder.f k l0 = some true := by
  intro l hm _
  by_cases h : (l.length : Int) > 1048576
  · refine ⟨100000000, ?_⟩
    unfold laws_FnExactLastOrder.f
    rw [e_szWalkerS l hm]
    simp only [Option.bind_some]
    rw [if_pos h]; rfl
  · have h2 : ¬ ((1048576 : Int) - (l.length : Int) < 0) := by omega
    obtain ⟨v, hvl, hI, K, hK⟩ := lor_all (l.map toI) (by simp; omega)
    have hlen : (l.map toI).length ≤ 1048576 := by simp; omega
    obtain ⟨N, hN1, hN2⟩ : ∃ N, K ≤ N ∧ 99999997 ≤ N := ⟨max K 99999997, by omega, by omega⟩
    refine ⟨N + 3, ?_⟩
    unfold laws_FnExactLastOrder.f
    rw [e_szWalkerS l hm]
    simp only [Option.bind_some]
    rw [if_neg h, if_neg h2]
    have ht : ∀ k, 2000000 < k → laws_toWalkerS.f k l = some (l.map toI) := fun k hk => e_toWalkerS k l (by omega) (by omega)
    have hq : ∀ k, 2000000 < k → laws_eqWalkerS.f k (l.map toI) (l.map toI) = some true := fun k hk => e_eqWalkerS k _ (by omega) (by omega)
    have hmw : ∀ k, 2000000 < k → ∃ m, laws_markWalkerS.f k (l.map toI) 1 = some (1 + 2 * ((l.map toI).length : Int), m) := fun k hk => e_markWalkerS k _ (by omega) (by omega)
    have hvq : ∀ k, 2000000 < k → laws_eqIntS.f k v.1 v.1 = some true := fun k hk => e_eqIntS k _ (by omega) (by omega)
    have hmk : ∀ k, 2000000 < k → laws_markIntS.f k v.1 1 = some (1 + (v.1.length : Int), markL v.1 1 v.1.length 0) := fun k hk => e_markIntS k _ (by omega) (by omega)
    have hhd : ∀ k, 2000000 < k → laws_heldIntS.f k (markL v.1 1 v.1.length 0) 1 = some (1 + (v.1.length : Int)) := fun k hk => e_heldIntS k _ (by omega) (by omega)
    generalize l.map toI = s at *
    obtain ⟨mw, hmw⟩ := hmw (N + 2) (by omega)
    have e1 : ¬ ((1 : Int) + 2 * (s.length : Int) < 0) := by omega
    have e2 : ¬ ((1 : Int) + (v.1.length : Int) < 0) := by omega
    simp only [ht (N + 3) (by omega), hI, hK (N + 3) (by omega), hvq (N + 3) (by omega), Option.bind_some, if_true, bne_self_eq_false]
    simp only [laws_FnExactLastOrder.j0, ht (N + 2) (by omega), hq (N + 2) (by omega), hmw, hvq (N + 2) (by omega), Option.bind_some, if_true, bne_self_eq_false, Bool.false_eq_true, if_false]
    simp only [laws_FnExactLastOrder.j1, laws_FnExactLastOrder.j2, ht (N + 1) (by omega), hI, hmk (N + 1) (by omega), hhd (N + 1) (by omega), hhd (N) (by omega), hvq (N + 1) (by omega), Option.bind_some, if_true, bne_self_eq_false, Bool.false_eq_true, if_false]
    simp [e1, e2]

end Go.Proofs.Ytfeabflbgendbaa.Pure
