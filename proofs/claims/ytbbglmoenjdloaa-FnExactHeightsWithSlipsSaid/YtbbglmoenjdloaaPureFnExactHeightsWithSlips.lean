/- The pure statement of the law FnExactHeightsWithSlips: what the program's function computes is what the reference's computes. -/
import Derived.Test.YtbbglmoenjdloaaOFnExactHeightsWithSlipsx3
namespace Go.Proofs.Ytbbglmoenjdloaa.Pure
open Go.RowKit Go.Proofs.Ytbbglmoenjdloaa.PFnExactHeightsWithSlips Go.Proofs.YtbbglmoenjdloaaW.PrintWords Go.Proofs.YtbbglmoenjdloaaW.PrintLast Go.Proofs.YtbbglmoenjdloaaW.PrintMore
set_option linter.unusedVariables false
set_option linter.unusedSimpArgs false
theorem w64 (n : Int) (h1 : -9223372036854775808 ≤ n) (h2 : n ≤ 9223372036854775807) : wrap64 n = n := by unfold wrap64; omega
theorem dec_and (p q : Prop) [Decidable p] [Decidable q] [Decidable (p ∧ q)] : (if p then some (decide q) else some false) = some (decide (p ∧ q)) := by
  by_cases h : p <;> by_cases h' : q <;> simp [h, h']
theorem le_cases (a b c : Int) : (if a ≥ b then some (decide (a ≤ c)) else some false) = some (decide (b ≤ a ∧ a ≤ c)) := by
  by_cases h : b ≤ a <;> by_cases h' : a ≤ c <;> simp [h, h']
def gd (u d : Int) : Prop := 1 ≤ u ∧ u ≤ 1000 ∧ 0 ≤ d ∧ d ≤ 1000
instance (u d : Int) : Decidable (gd u d) := by unfold gd; infer_instance
def gk (p s : Int) : Prop := -1000 ≤ p ∧ p ≤ 1000 ∧ -100 ≤ s ∧ s ≤ 100
instance (p s : Int) : Decidable (gk p s) := by unfold gk; infer_instance
def gw (w : Int) : Prop := 1 ≤ w ∧ w ≤ 1000000
instance (w : Int) : Decidable (gw w) := by unfold gw; infer_instance
def reach (u d day : Int) : Int := if u ≤ d then u else u + (day - 1) * (u - d)
def dayH (u d h : Int) : Int := if h ≤ u then 1 else if u ≤ d then 0 else 1 + (h - u + (u - d) - 1) / (u - d)
theorem mul_bd (a b A B : Int) (h1 : 0 ≤ a) (h2 : a ≤ A) (h3 : 0 ≤ b) (h4 : b ≤ B) : 0 ≤ a * b ∧ a * b ≤ A * B :=
  ⟨Int.mul_nonneg h1 h3, Int.mul_le_mul h2 h4 h3 (by omega)⟩
theorem reach_bd (u d day : Int) (g : gd u d) (w : gw day) : u ≤ reach u d day ∧ reach u d day ≤ 1000000000 := by
  unfold gd at g; unfold gw at w; unfold reach
  split
  · omega
  · have := mul_bd (day - 1) (u - d) 999999 1000 (by omega) (by omega) (by omega) (by omega)
    omega
theorem div_bd (x g : Int) (hg : 1 ≤ g) (hx : 0 ≤ x) : 0 ≤ x / g ∧ x / g ≤ x :=
  ⟨Int.ediv_nonneg hx (by omega), Int.ediv_le_self _ hx⟩
theorem dayH_bd (u d h : Int) (g : gd u d) (hh : h ≤ 1000000) : 0 ≤ dayH u d h ∧ dayH u d h ≤ 1001000 := by
  unfold gd at g; unfold dayH
  split
  · omega
  · split
    · omega
    · have := div_bd (h - u + (u - d) - 1) (u - d) (by omega) (by omega)
      omega
theorem ceil_le (x g n : Int) (hg : 1 ≤ g) : (x + g - 1) / g ≤ n ↔ x ≤ n * g := by
  have h : (x + g - 1) / g < n + 1 ↔ x + g - 1 < (n + 1) * g := Int.ediv_lt_iff_lt_mul (by omega)
  have e : (n + 1) * g = n * g + g := by rw [Int.add_mul, Int.one_mul]
  rw [e] at h
  constructor
  · intro k; have := h.mp (by omega); omega
  · intro k; have := h.mpr (by omega); omega
/-- The day is reached at the end of a day just if that day is not before it. -/
theorem dayH_le (u d h day : Int) (hd : 1 ≤ day) : (0 < dayH u d h ∧ dayH u d h ≤ day) ↔ h ≤ reach u d day := by
  unfold dayH reach
  by_cases h1 : h ≤ u
  · rw [if_pos h1]
    split
    · omega
    · have := Int.mul_nonneg (show 0 ≤ day - 1 by omega) (show 0 ≤ u - d by omega)
      omega
  · rw [if_neg h1]
    by_cases h2 : u ≤ d
    · rw [if_pos h2, if_pos h2]; omega
    · rw [if_neg h2, if_neg h2]
      have a := Int.ediv_nonneg (show 0 ≤ h - u + (u - d) - 1 by omega) (show 0 ≤ u - d by omega)
      have c := ceil_le (h - u) (u - d) (day - 1) (by omega)
      constructor
      · rintro ⟨_, k⟩; have := c.mp (by omega); omega
      · intro k; have := c.mpr (by omega); omega
def daysV (u d w : Int) : Int × Bool := if gd u d ∧ gw w then (dayH u d w, decide (0 < dayH u d w)) else (0, false)
def greatV (u d w : Int) : Int × Bool := if gd u d ∧ gw w then (reach u d w, true) else (0, false)
def evenV (u d w day : Int) : Int × Bool := if (gd u d ∧ gw w) ∧ gw day then (min w (reach u d day), true) else (0, false)
def mornV (u d w day : Int) : Int × Bool := if (gd u d ∧ gw w) ∧ gw day then (if day = 1 then 0 else if min w (reach u d (day - 1)) = w then w else max 0 (min w (reach u d (day - 1)) - d), true) else (0, false)
def mornI (u d w day : Int) : Int := if day = 1 then 0 else if min w (reach u d (day - 1)) = w then w else max 0 (min w (reach u d (day - 1)) - d)
def dayV (u d w h : Int) : Int × Bool := if (gd u d ∧ gw w) ∧ 0 ≤ h ∧ h ≤ w then (dayH u d h, decide (0 < dayH u d h)) else (0, false)
def leadV (u d u' d' w day : Int) : Int × Bool := if ((gd u d ∧ gw w) ∧ gd u' d') ∧ gw day then (min w (reach u d day) - min w (reach u' d' day), true) else (0, false)
def upL (P : Int → Bool) : Nat → Int → Int × Bool
  | 0, _ => (0, false)
  | n + 1, up => if P up = true then (up, true) else upL P n (up + 1)
def slowP (w days d up : Int) : Bool := decide (w ≤ reach up d days)
def slowV (w days d : Int) : Int × Bool := if (gw w ∧ gw days) ∧ 0 ≤ d ∧ d ≤ 1000 then upL (slowP w days d) 1000 1 else (0, false)
def downL (P : Int → Bool) : Nat → Int → Int × Bool
  | 0, _ => (0, false)
  | n + 1, x => if P x = true then (x, true) else downL P n (x - 1)
def mostP (w days u x : Int) : Bool := decide (w ≤ reach u x days)
def mostV (w days u : Int) : Int × Bool := if (gw w ∧ gw days) ∧ 1 ≤ u ∧ u ≤ 1000 then downL (mostP w days u) 1001 1000 else (0, false)
theorem e_within (a b c : Int) : impl_within.f a b c = some (decide (b ≤ a ∧ a ≤ c)) := by
  unfold impl_within.f; exact le_cases a b c
theorem e_l1In (a b c : Int) : spec_l1In.f a b c = some (decide (b ≤ a ∧ a ≤ c)) := by
  unfold spec_l1In.f; exact le_cases a b c
theorem e_isWall (a : Int) : impl_isWall.f a = some (decide (gw a)) := by
  unfold impl_isWall.f; simp only [e_within, Option.bind_some]; rfl
theorem e_snWall (a : Int) : spec_snWall.f a = some (decide (gw a)) := by
  unfold spec_snWall.f; simp only [e_l1In, Option.bind_some]; rfl
theorem e_l1Least (a b : Int) : spec_l1Least.f a b = some (min a b) := by
  unfold spec_l1Least.f; split <;> (congr 1; omega)
theorem e_l1Most (a b : Int) : spec_l1Most.f a b = some (max a b) := by
  unfold spec_l1Most.f; split <;> (congr 1; omega)
theorem uniq (a b q r : Int) (hb : 0 < b) (e : b * q + r = a) (h0 : 0 ≤ r) (h1 : r < b) : a / b = q ∧ a % b = r :=
  (Int.ediv_emod_unique hb).mpr ⟨by rw [← e]; exact Int.add_comm _ _, h0, h1⟩
theorem tm_bd (a b : Int) (hb : 0 < b) : b * a.tdiv b + a.tmod b = a ∧ -b < a.tmod b ∧ a.tmod b < b :=
  ⟨Int.mul_tdiv_add_tmod a b, Int.lt_tmod_of_pos a hb, Int.tmod_lt_of_pos a hb⟩
theorem floor_is (a b : Int) (hb : 0 < b) : (if a.tmod b < 0 then a.tdiv b - 1 else a.tdiv b) = a / b := by
  obtain ⟨e, h0, h1⟩ := tm_bd a b hb
  split
  · have := uniq a b (a.tdiv b - 1) (a.tmod b + b) hb (by rw [Int.mul_sub]; omega) (by omega) (by omega)
    exact this.1.symm
  · have := uniq a b (a.tdiv b) (a.tmod b) hb e (by omega) h1
    exact this.1.symm
theorem mod_is (a b : Int) (hb : 0 < b) : (a.tmod b + b).tmod b = a % b := by
  obtain ⟨e, h0, h1⟩ := tm_bd a b hb
  rw [Int.tmod_eq_emod_of_nonneg (by omega), Int.add_emod_right]
  have h := Int.add_mul_emod_self_left (a.tmod b) b (a.tdiv b)
  rw [Int.add_comm, e] at h
  exact h.symm
theorem abs_mx (a : Int) : mx a (-a) = (a.natAbs : Int) := by unfold mx; split <;> omega
theorem gcd_pos (num den : Int) (h : den ≠ 0) : 0 < (Int.gcd num den : Int) := by
  have : 0 < Int.gcd num den := Int.gcd_pos_of_ne_zero_right _ h
  omega
theorem tdiv_ex (a g : Int) (h : g ∣ a) : a.tdiv g = a / g := Int.tdiv_eq_ediv_of_dvd h
def gt (a b : Int) : Prop := 0 ≤ a ∧ a ≤ 1000000 ∧ 1 ≤ b ∧ b ≤ 1000
instance (a b : Int) : Decidable (gt a b) := by unfold gt; infer_instance
def gr (a : Int) : Prop := 1 ≤ a ∧ a ≤ 1000
instance (a : Int) : Decidable (gr a) := by unfold gr; infer_instance
def lowN (num den : Int) : Int := (if den < 0 then -num else num) / (Int.gcd num den : Int)
def lowD (num den : Int) : Int := (if den < 0 then -den else den) / (Int.gcd num den : Int)
def placeV (p s num den : Int) : Int := p * den + s * num
def wpV (p s num den : Int) : Int × Int × Bool := if gk p s ∧ gt num den then (lowN (placeV p s num den) den, lowD (placeV p s num den) den, true) else (0, 0, false)
def gapV (p s p' s' num den : Int) : Int := ((placeV p s num den - placeV p' s' num den).natAbs : Int)
def gaV (p s p' s' num den : Int) : Int × Int × Bool := if (gk p s ∧ gk p' s') ∧ gt num den then (lowN (gapV p s p' s' num den) den, lowD (gapV p s p' s' num den) den, true) else (0, 0, false)
def meetV (p s p' s' : Int) : Int × Int × Bool := if p = p' then (0, 1, true) else if s = s' then (0, 0, false) else if lowN (p' - p) (s - s') < 0 then (0, 0, false) else (lowN (p' - p) (s - s'), lowD (p' - p) (s - s'), true)
def mtV (p s p' s' : Int) : Int × Int × Bool := if gk p s ∧ gk p' s' then meetV p s p' s' else (0, 0, false)
def mpV (p s p' s' : Int) : Int × Int × Bool := if (gk p s ∧ gk p' s') ∧ (meetV p s p' s').2.2 = true then (lowN (placeV p s (meetV p s p' s').1 (meetV p s p' s').2.1) (meetV p s p' s').2.1, lowD (placeV p s (meetV p s p' s').1 (meetV p s p' s').2.1) (meetV p s p' s').2.1, true) else (0, 0, false)
def ringV (a p s p' s' : Int) : Int × Int := if s < s' then ((p - p') % a, s' - s) else ((p' - p) % a, s - s')
def ringV' (a p s p' s' : Int) : Int × Int := if s < s' then ((p - p') % a, s' - s) else ((p' - p) % a, s - s')
def rgV (a p s p' s' : Int) : Int × Int × Bool := if ((gr a ∧ gk p s) ∧ gk p' s') ∧ ¬ s = s' then (lowN a ((s - s').natAbs : Int), lowD a ((s - s').natAbs : Int), true) else (0, 0, false)
def crV (a p s p' s' t : Int) : Int × Bool := if (((gr a ∧ gk p s) ∧ gk p' s') ∧ ¬ s = s') ∧ 0 ≤ t ∧ t ≤ 1000 then (if t * (ringV a p s p' s').2 < (ringV a p s p' s').1 then 0 else (t * (ringV a p s p' s').2 - (ringV a p s p' s').1) / a + 1, true) else (0, false)
theorem div_abs (a g : Int) (hg : 1 ≤ g) (B : Int) (h : -B ≤ a ∧ a ≤ B) : -B ≤ a / g ∧ a / g ≤ B := by
  constructor
  · have : -B ≤ a / g ↔ -B * g ≤ a := Int.le_ediv_iff_mul_le (by omega)
    refine this.mpr ?_
    have hB : 0 ≤ B := by omega
    have := Int.mul_le_mul_of_nonneg_left hg hB
    rw [Int.neg_mul]; omega
  · rcases Int.lt_or_le a 0 with h' | h'
    · have : a / g < 0 ↔ a < 0 * g := Int.ediv_lt_iff_lt_mul (by omega)
      have := this.mpr (by omega)
      omega
    · have := Int.ediv_le_self g h'
      omega
theorem low_bd (num den B : Int) (hd : den ≠ 0) (h1 : -B ≤ num ∧ num ≤ B) (h2 : -B ≤ den ∧ den ≤ B) : (-B ≤ lowN num den ∧ lowN num den ≤ B) ∧ (1 ≤ lowD num den ∧ lowD num den ≤ B) := by
  have hg := gcd_pos num den hd
  refine ⟨?_, ?_⟩
  · unfold lowN; exact div_abs _ _ (by omega) B (by split <;> omega)
  · have h := div_abs (if den < 0 then -den else den) (Int.gcd num den : Int) (by omega) B (by split <;> omega)
    unfold lowD
    refine ⟨?_, h.2⟩
    have hd' : (Int.gcd num den : Int) ∣ (if den < 0 then -den else den) := by
      split
      · exact Int.dvd_neg.mpr (Int.gcd_dvd_right ..)
      · exact Int.gcd_dvd_right ..
    have hp : 0 < (if den < 0 then -den else den) := by split <;> omega
    have := Int.ediv_pos_of_pos_of_dvd hp (by omega) hd'
    omega
theorem lowN_neg (num den : Int) (hd : den ≠ 0) : lowN num den < 0 ↔ (if den < 0 then -num else num) < 0 := by
  have hg := gcd_pos num den hd
  unfold lowN
  have : (if den < 0 then -num else num) / (Int.gcd num den : Int) < 0 ↔ (if den < 0 then -num else num) < 0 * (Int.gcd num den : Int) := Int.ediv_lt_iff_lt_mul (by omega)
  rw [Int.zero_mul] at this
  exact this
theorem ediv_min (a g : Int) (h : g ∣ a) (hg : g ≠ 0) : -a / g = -(a / g) := Int.neg_ediv_of_dvd h
theorem abs_mul (a b A B : Int) (h1 : -A ≤ a ∧ a ≤ A) (h2 : 0 ≤ b ∧ b ≤ B) : -(A * B) ≤ a * b ∧ a * b ≤ A * B := by
  have hA : 0 ≤ A := by omega
  have t : A * b ≤ A * B := Int.mul_le_mul_of_nonneg_left h2.2 hA
  have t1 : a * b ≤ A * b := Int.mul_le_mul_of_nonneg_right h1.2 h2.1
  have t2 : -A * b ≤ a * b := Int.mul_le_mul_of_nonneg_right h1.1 h2.1
  rw [Int.neg_mul] at t2
  omega
theorem e_l1Most' (a b : Int) : spec_l1Most.f a b = some (max a b) := by
  unfold spec_l1Most.f; split <;> (congr 1; omega)
theorem rdn (l : List Int) (i : Nat) : rd l (i : Int) = l.getD i 0 := by simp [rd]
theorem drop_cons (l : List Int) (i : Nat) (h : i < l.length) : l.drop i = l.getD i 0 :: l.drop (i + 1) := by
  rw [List.drop_eq_getElem_cons h]; simp [List.getD_eq_getElem?_getD, h]
theorem getD_mem (l : List Int) (i : Nat) (h : i < l.length) : l.getD i 0 ∈ l := by
  simp [List.getD_eq_getElem?_getD, h]
theorem round1 {k n : Nat} (h : n < k) : ∃ m, k = m + 1 ∧ n ≤ m := ⟨k - 1, by omega, by omega⟩
def gs (up : Int) (s : List Int) : Prop := (1 ≤ up ∧ up ≤ 1000) ∧ (1 ≤ (s.length : Int) ∧ (s.length : Int) ≤ 12) ∧ ∀ x ∈ s, 0 ≤ x ∧ x ≤ 1000
instance (up : Int) (s : List Int) : Decidable (gs up s) := by unfold gs; infer_instance
/-- The slip of the night behind day j + 1. -/
def sl (s : List Int) (j : Nat) : Int := s.getD (j % s.length) 0
theorem sl_bd (up : Int) (s : List Int) (g : gs up s) (j : Nat) : 0 ≤ sl s j ∧ sl s j ≤ 1000 := by
  obtain ⟨_, h, ha⟩ := g
  exact ha _ (getD_mem s _ (Nat.mod_lt _ (by omega)))
theorem tmod_nat (j n : Nat) : Int.tmod (j : Int) (n : Int) = ((j % n : Nat) : Int) := by
  rw [Int.tmod_eq_emod_of_nonneg (by omega), Int.natCast_emod]
/-- How far it comes at most: rounds left, day, height in the morning, most so far. -/
def gsL (up : Int) (s : List Int) : Nat → Nat → Int → Int → Int
  | 0, _, _, most => most
  | n + 1, j, m, most => gsL up s n (j + 1) (max 0 (m + up - sl s j)) (max most (m + up))
def gwsV (up : Int) (s : List Int) (days : Int) : Int × Bool := if gs up s ∧ gw days then (gsL up s days.toNat 0 0 0, true) else (0, false)
theorem e_l1All_l0 (lo hi : Int) (l : List Int) (hl : (l.length : Int) ≤ 9000000000000000000) : ∀ (n i k : Nat), i + n = l.length → n < k → spec_l1All.l0 k lo hi l (l.length : Int) (i : Int) = some (decide (∀ x ∈ l.drop i, lo ≤ x ∧ x ≤ hi)) := by
  intro n
  induction n with
  | zero =>
    intro i k hi hk
    obtain ⟨k, rfl, hk⟩ := round1 hk
    simp only [spec_l1All.l0]
    rw [if_neg (by omega), List.drop_eq_nil_of_le (by omega)]; simp
  | succ n ih =>
    intro i k hi' hk
    obtain ⟨k, rfl, hk⟩ := round1 hk
    simp only [spec_l1All.l0]
    rw [if_pos (by omega), if_pos (by omega), if_pos (by omega), rdn, e_l1In, drop_cons l i (by omega), w64 _ (by omega) (by omega)]
    have e : ((i : Int) + 1) = ((i + 1 : Nat) : Int) := by omega
    rw [e, ih (i + 1) k (by omega) (by omega)]
    by_cases h : lo ≤ l.getD i 0 ∧ l.getD i 0 ≤ hi
    · simp only [Option.bind_some, decide_eq_true_eq, List.forall_mem_cons]
      rw [if_pos h]; congr 1; exact decide_eq_decide.mpr ⟨fun z => ⟨h, z⟩, fun z => z.2⟩
    · simp only [Option.bind_some, decide_eq_true_eq, List.forall_mem_cons]
      rw [if_neg h]; congr 1; symm; rw [decide_eq_false_iff_not]; exact fun z => h z.1
theorem e_l1All (k : Nat) (lo hi : Int) (l : List Int) (hl : (l.length : Int) ≤ 9000000000000000000) (hk : l.length < k) : spec_l1All.f k l lo hi = some (decide (∀ x ∈ l, lo ≤ x ∧ x ≤ hi)) := by
  unfold spec_l1All.f
  have := e_l1All_l0 lo hi l hl l.length 0 k (by omega) hk
  exact this
theorem e_allWithin_l0 (lo hi : Int) (l : List Int) (hl : (l.length : Int) ≤ 9000000000000000000) : ∀ (n i k : Nat), i + n = l.length → n < k → impl_allWithin.l0 k lo hi l (l.length : Int) (i : Int) = some (decide (∀ x ∈ l.drop i, lo ≤ x ∧ x ≤ hi)) := by
  intro n
  induction n with
  | zero =>
    intro i k hi hk
    obtain ⟨k, rfl, hk⟩ := round1 hk
    simp only [impl_allWithin.l0]
    rw [if_neg (by omega), List.drop_eq_nil_of_le (by omega)]; simp
  | succ n ih =>
    intro i k hi' hk
    obtain ⟨k, rfl, hk⟩ := round1 hk
    simp only [impl_allWithin.l0]
    rw [if_pos (by omega), if_pos (by omega), if_pos (by omega), rdn, e_within, drop_cons l i (by omega), w64 _ (by omega) (by omega)]
    have e : ((i : Int) + 1) = ((i + 1 : Nat) : Int) := by omega
    rw [e, ih (i + 1) k (by omega) (by omega)]
    by_cases h : lo ≤ l.getD i 0 ∧ l.getD i 0 ≤ hi
    · simp only [Option.bind_some, decide_eq_true_eq, List.forall_mem_cons]
      rw [if_pos h]; congr 1; exact decide_eq_decide.mpr ⟨fun z => ⟨h, z⟩, fun z => z.2⟩
    · simp only [Option.bind_some, decide_eq_true_eq, List.forall_mem_cons]
      rw [if_neg h]; congr 1; symm; rw [decide_eq_false_iff_not]; exact fun z => h z.1
theorem e_allWithin (k : Nat) (lo hi : Int) (l : List Int) (hl : (l.length : Int) ≤ 9000000000000000000) (hk : l.length < k) : impl_allWithin.f k l lo hi = some (decide (∀ x ∈ l, lo ≤ x ∧ x ≤ hi)) := by
  unfold impl_allWithin.f
  have := e_allWithin_l0 lo hi l hl l.length 0 k (by omega) hk
  exact this
theorem e_snSlips (k : Nat) (up : Int) (s : List Int) (hk : 20 < k) : spec_snSlips.f k up s = some (decide (gs up s)) := by
  unfold spec_snSlips.f; simp only [e_l1In, Option.bind_some]
  by_cases h : 1 ≤ up ∧ up ≤ 1000
  · by_cases h' : 1 ≤ (s.length : Int) ∧ (s.length : Int) ≤ 12
    · rw [e_l1All k 0 1000 s (by omega) (by omega)]; simp only [h, h', gs, true_and, and_self, decide_true, if_true, Option.bind_some]
    · simp only [h, h', gs, false_and, and_false, decide_false, decide_true, if_true, and_self]; simp
  · simp only [h, gs, false_and, decide_false]; simp
theorem e_areSlips (k : Nat) (up : Int) (s : List Int) (hk : 20 < k) : impl_areSlips.f k up s = some (decide (gs up s)) := by
  unfold impl_areSlips.f; simp only [e_within, Option.bind_some]
  by_cases h : 1 ≤ up ∧ up ≤ 1000
  · by_cases h' : 1 ≤ (s.length : Int) ∧ (s.length : Int) ≤ 12
    · rw [e_allWithin k 0 1000 s (by omega) (by omega)]; simp only [h, h', gs, true_and, and_self, decide_true, if_true, Option.bind_some]
    · simp only [h, h', gs, false_and, and_false, decide_false, decide_true, if_true, and_self]; simp
  · simp only [h, gs, false_and, decide_false]; simp
theorem set_take_drop (l m : List Int) (i : Nat) (h : i < l.length) : (l.take i ++ m.drop i).set i (l.getD i 0) = l.take (i + 1) ++ m.drop (i + 1) ∨ m.length ≤ i := by
  rcases Nat.lt_or_ge i m.length with h' | h'
  · left
    have hl : (l.take i).length = i := by simp; omega
    rw [List.set_append_right _ _ (by omega), hl, Nat.sub_self, List.drop_eq_getElem_cons h', List.set_cons_zero, List.take_succ_eq_append_getElem h, List.append_assoc]
    simp [List.getD_eq_getElem?_getD, h]
  · right; exact h'
theorem e_toIntS_l0 (l : List Int) (hl : (l.length : Int) ≤ 9000000000000000000) : ∀ (n i k : Nat), i + n = l.length → n < k → laws_toIntS.l0 k l (l.take i ++ (List.replicate l.length 0).drop i) (i : Int) = some l := by
  intro n
  induction n with
  | zero =>
    intro i k hi hk
    obtain ⟨k, rfl, hk⟩ := round1 hk
    simp only [laws_toIntS.l0]
    rw [if_neg (by omega), List.take_of_length_le (by omega), List.drop_eq_nil_of_le (by simp; omega), List.append_nil]
  | succ n ih =>
    intro i k hi hk
    obtain ⟨k, rfl, hk⟩ := round1 hk
    simp only [laws_toIntS.l0]
    rw [if_pos (by omega), if_pos (by omega), if_pos (by simp; omega), rdn, w64 _ (by omega) (by omega), show ((i : Int)).toNat = i by omega, show ((i : Int) + 1) = ((i + 1 : Nat) : Int) by omega]
    rcases set_take_drop l (List.replicate l.length 0) i (by omega) with h | h
    · rw [h]; exact ih (i + 1) k (by omega) (by omega)
    · simp at h; omega
theorem e_toIntS (k : Nat) (l : List Int) (hl : l.length ≤ 1048576) (hk : l.length < k) : laws_toIntS.f k l = some l := by
  unfold laws_toIntS.f
  rw [if_pos (by omega), if_pos (by omega)]
  have := e_toIntS_l0 l (by omega) l.length 0 k (by omega) hk
  simpa using this
theorem e_eqIntS_l0 (l : List Int) (hl : (l.length : Int) ≤ 9000000000000000000) : ∀ (n i k : Nat), i + n = l.length → n < k → laws_eqIntS.l0 k l l (i : Int) = some true := by
  intro n
  induction n with
  | zero =>
    intro i k hi hk
    obtain ⟨k, rfl, hk⟩ := round1 hk
    simp only [laws_eqIntS.l0]; rw [if_neg (by omega)]
  | succ n ih =>
    intro i k hi hk
    obtain ⟨k, rfl, hk⟩ := round1 hk
    simp only [laws_eqIntS.l0]
    rw [if_pos (by omega), if_pos (by omega), if_pos (by omega), if_true, w64 _ (by omega) (by omega), show ((i : Int) + 1) = ((i + 1 : Nat) : Int) by omega]
    exact ih (i + 1) k (by omega) (by omega)
theorem e_eqIntS (k : Nat) (l : List Int) (hl : (l.length : Int) ≤ 9000000000000000000) (hk : l.length < k) : laws_eqIntS.f k l l = some true := by
  unfold laws_eqIntS.f; rw [if_pos rfl]; exact e_eqIntS_l0 l hl l.length 0 k (by omega) hk
def markL (l : List Int) (c : Int) : Nat → Nat → List Int
  | 0, _ => l
  | n + 1, i => markL (l.set i c) (c + 1) n (i + 1)
theorem markL_length : ∀ (n i : Nat) (l : List Int) (c : Int), (markL l c n i).length = l.length := by
  intro n; induction n with
  | zero => intro i l c; rfl
  | succ n ih => intro i l c; simp [markL, ih]
theorem markL_below : ∀ (n i : Nat) (l : List Int) (c : Int) (j : Nat), j < i → (markL l c n i).getD j 0 = l.getD j 0 := by
  intro n; induction n with
  | zero => intro i l c j h; rfl
  | succ n ih =>
    intro i l c j h
    simp only [markL]; rw [ih (i + 1) _ _ j (by omega)]
    simp only [List.getD_eq_getElem?_getD]; rw [List.getElem?_set_ne (by omega)]
theorem markL_at : ∀ (n i : Nat) (l : List Int) (c : Int) (j : Nat), i + n = l.length → i ≤ j → j < l.length → (markL l c n i).getD j 0 = c + (j - i : Nat) := by
  intro n; induction n with
  | zero => intro i l c j h h1 h2; omega
  | succ n ih =>
    intro i l c j h h1 h2
    simp only [markL]
    rcases Nat.lt_or_ge i j with h3 | h3
    · rw [ih (i + 1) _ _ j (by simp; omega) (by omega) (by simpa using h2)]; omega
    · have e : j = i := by omega
      subst e
      rw [markL_below n (j + 1) _ _ j (by omega)]
      simp [List.getD_eq_getElem?_getD, h2]
theorem e_markIntS_l0 : ∀ (n i k : Nat) (l : List Int) (c : Int), (l.length : Int) ≤ 4000000000000000000 → i + n = l.length → 0 ≤ c → c ≤ 1 + i → n < k → laws_markIntS.l0 k l c (i : Int) = some (c + n, markL l c n i) := by
  intro n
  induction n with
  | zero =>
    intro i k l c hl hi h0 h1 hk
    obtain ⟨k, rfl, hk⟩ := round1 hk
    simp only [laws_markIntS.l0, markL]; rw [if_neg (by omega)]; simp
  | succ n ih =>
    intro i k l c hl hi h0 h1 hk
    obtain ⟨k, rfl, hk⟩ := round1 hk
    simp only [laws_markIntS.l0, markL]
    rw [if_pos (by omega), if_pos (by omega), w64 (c + 1) (by omega) (by omega), w64 _ (by omega) (by omega), show ((i : Int)).toNat = i by omega, show ((i : Int) + 1) = ((i + 1 : Nat) : Int) by omega]
    rw [ih (i + 1) k (l.set i c) (c + 1) (by simpa using hl) (by simp; omega) (by omega) (by omega) (by omega)]
    congr 2; omega
theorem e_markIntS (k : Nat) (l : List Int) (hl : (l.length : Int) ≤ 4000000000000000000) (hk : l.length < k) : laws_markIntS.f k l 1 = some (1 + (l.length : Int), markL l 1 l.length 0) := by
  unfold laws_markIntS.f; exact e_markIntS_l0 l.length 0 k l 1 hl (by omega) (by omega) (by omega) hk
theorem e_heldIntS_l0 (l : List Int) (hl : (l.length : Int) ≤ 4000000000000000000) (h : ∀ j, j < l.length → l.getD j 0 = 1 + j) : ∀ (n i k : Nat) (c : Int), i + n = l.length → c = 1 + i → n < k → laws_heldIntS.l0 k l c (i : Int) = some (c + n) := by
  intro n
  induction n with
  | zero =>
    intro i k c hi hc hk
    obtain ⟨k, rfl, hk⟩ := round1 hk
    simp only [laws_heldIntS.l0]; rw [if_neg (by omega)]; simp
  | succ n ih =>
    intro i k c hi hc hk
    obtain ⟨k, rfl, hk⟩ := round1 hk
    simp only [laws_heldIntS.l0]
    have := h i (by omega)
    rw [if_pos (by omega), if_pos (by omega), rdn, this, if_pos (by omega), w64 (c + 1) (by omega) (by omega), w64 _ (by omega) (by omega), show ((i : Int) + 1) = ((i + 1 : Nat) : Int) by omega]
    rw [ih (i + 1) k (c + 1) (by omega) (by omega) (by omega)]
    congr 1; omega
theorem e_heldIntS (k : Nat) (l : List Int) (hl : (l.length : Int) ≤ 4000000000000000000) (hk : l.length < k) : laws_heldIntS.f k (markL l 1 l.length 0) 1 = some (1 + (l.length : Int)) := by
  unfold laws_heldIntS.f
  have e := markL_length l.length 0 l 1
  have := e_heldIntS_l0 (markL l 1 l.length 0) (by rw [e]; exact hl) (fun j hj => by rw [e] at hj; have := markL_at l.length 0 l 1 j (by omega) (by omega) hj; rw [this]; omega) (markL l 1 l.length 0).length 0 k 1 (by omega) (by omega) (by omega)
  rw [e] at this; exact this
/-- How high it is in the morning before day j + 1, if there is no top. -/
def mor (up : Int) (s : List Int) : Nat → Int
  | 0 => 0
  | j + 1 => max 0 (mor up s j + up - sl s j)
theorem mor_bd (up : Int) (s : List Int) (g : gs up s) : ∀ j : Nat, 0 ≤ mor up s j ∧ mor up s j ≤ j * 1000 := by
  intro j
  induction j with
  | zero => simp [mor]
  | succ j ih =>
    have hs := sl_bd up s g j
    have g1 := g.1
    simp only [mor]
    omega
theorem sl_per (s : List Int) (j : Nat) : sl s (j + s.length) = sl s j := by unfold sl; rw [Nat.add_mod_right]
theorem mor_step (up : Int) (s : List Int) (a : Nat) (h : mor up s (a + s.length) ≤ mor up s a) : ∀ t, mor up s (a + t + s.length) ≤ mor up s (a + t) := by
  intro t
  induction t with
  | zero => exact h
  | succ t ih =>
    have e : a + (t + 1) + s.length = (a + t + s.length) + 1 := by omega
    rw [e, show a + (t + 1) = (a + t) + 1 by omega]
    simp only [mor]
    rw [sl_per s (a + t)]
    omega
theorem mor_never (up w : Int) (s : List Int) (hs : 1 ≤ s.length) (a : Nat) (h : mor up s (a + s.length) ≤ mor up s a) (hb : ∀ i, i < a + s.length → mor up s i + up < w) : ∀ j, mor up s j + up < w := by
  intro j
  induction j using Nat.strongRecOn with
  | ind j ih =>
    rcases Nat.lt_or_ge j (a + s.length) with h1 | h1
    · exact hb j h1
    · have := mor_step up s a h (j - s.length - a)
      rw [show a + (j - s.length - a) + s.length = j by omega, show a + (j - s.length - a) = j - s.length by omega] at this
      have := ih (j - s.length) (by omega)
      omega
/-- What the day of the top is: the first one, or that there is none. -/
def DS (up : Int) (s : List Int) (w : Int) (r : Int × Bool) : Prop :=
  (∃ j : Nat, r = ((j : Int) + 1, true) ∧ mor up s j + up ≥ w ∧ ∀ i, i < j → mor up s i + up < w) ∨ (r = (0, false) ∧ ∀ j, mor up s j + up < w)
theorem DS_one (up : Int) (s : List Int) (w : Int) (r r' : Int × Bool) (h : DS up s w r) (h' : DS up s w r') : r = r' := by
  rcases h with ⟨j, e, a, b⟩ | ⟨e, a⟩ <;> rcases h' with ⟨j', e', a', b'⟩ | ⟨e', a'⟩
  · rcases Nat.lt_trichotomy j j' with h | h | h
    · have := b' j h; omega
    · rw [e, e', h]
    · have := b j' h; omega
  · have := a' j; omega
  · have := a j'; omega
  · rw [e, e']
/-- Evenings: rounds left, day, height in the morning. -/
def hL (up : Int) (s : List Int) (w : Int) : Nat → Nat → Int → List Int
  | 0, _, _ => []
  | n + 1, j, m => min w (m + up) :: hL up s w n (j + 1) (if min w (m + up) = w then w else max 0 (min w (m + up) - sl s j))
def hV (up : Int) (s : List Int) (w days : Int) : List Int × Bool := if (gs up s ∧ gw w) ∧ 1 ≤ days ∧ days ≤ 1000 then (hL up s w days.toNat 0 0, true) else ([], false)
theorem hL_len (up : Int) (s : List Int) (w : Int) : ∀ n j m, (hL up s w n j m).length = n := by
  intro n; induction n with
  | zero => intros; rfl
  | succ n ih => intros; simp [hL, ih]
theorem e_sHws_l0 (up : Int) (s : List Int) (w days : Int) (g : gs up s) (hw : gw w) (hd : days ≤ 1000) : ∀ (n j k : Nat) (m : Int) (acc : List Int), (j : Int) + n = days → 0 ≤ m → m ≤ w → acc.length = j → n < k → spec_HeightsWithSlips.l0 k up s w days m acc ((j : Int) + 1) = some (acc ++ hL up s w n j m, true) := by
  have g' := g
  obtain ⟨g1, g2, g3⟩ := g'
  have hw' := hw; unfold gw at hw'
  intro n
  induction n with
  | zero =>
    intro j k m acc h1 h2 h3 h4 hk
    obtain ⟨k, rfl, hk⟩ := round1 hk
    simp only [spec_HeightsWithSlips.l0, hL]
    rw [if_neg (by omega), List.append_nil]
  | succ n ih =>
    intro j k m acc h1 h2 h3 h4 hk
    obtain ⟨k, rfl, hk⟩ := round1 hk
    have hs := sl_bd up s g j
    have hm := Nat.mod_lt j (show s.length > 0 by omega)
    simp only [spec_HeightsWithSlips.l0, hL]
    rw [if_pos (by omega)]
    by_cases c : m < w
    · rw [if_pos c, w64 (m + up) (by omega) (by omega), e_l1Least]
      simp only [Option.bind_some]
      rw [if_pos (by omega)]
      by_cases d : min w (m + up) < w
      · rw [if_pos d, if_neg (by omega), w64 ((j : Int) + 1 - 1) (by omega) (by omega), show ((j : Int) + 1 - 1) = (j : Int) by omega, tmod_nat, if_pos (by omega), if_pos (by omega), rdn, show s.getD (j % s.length) 0 = sl s j from rfl, w64 (min w (m + up) - sl s j) (by omega) (by omega), e_l1Most]
        simp only [Option.bind_some]
        rw [w64 ((j : Int) + 1 + 1) (by omega) (by omega), show ((j : Int) + 1) = ((j + 1 : Nat) : Int) by omega, ih (j + 1) k _ _ (by omega) (by omega) (by omega) (by simp; omega) (by omega), if_neg (show ¬ min w (m + up) = w by omega)]
        simp
      · rw [if_neg d, w64 ((j : Int) + 1 + 1) (by omega) (by omega), show ((j : Int) + 1) = ((j + 1 : Nat) : Int) by omega, ih (j + 1) k _ _ (by omega) (by omega) (by omega) (by simp; omega) (by omega), if_pos (show min w (m + up) = w by omega)]
        rw [show min w (m + up) = w by omega]; simp
    · have e : m = w := by omega
      subst e
      rw [if_neg c, if_pos (by omega), w64 ((j : Int) + 1 + 1) (by omega) (by omega), show ((j : Int) + 1) = ((j + 1 : Nat) : Int) by omega, ih (j + 1) k _ _ (by omega) (by omega) (by omega) (by simp; omega) (by omega), if_pos (show min m (m + up) = m by omega)]
      rw [show min m (m + up) = m by omega]; simp
theorem e_sHws (k : Nat) (up : Int) (s : List Int) (w days : Int) (hk : 2000 < k) : spec_HeightsWithSlips.f k up s w days = some (hV up s w days) := by
  obtain ⟨k, rfl⟩ : ∃ m, k = m + 1 := ⟨k - 1, by omega⟩
  unfold spec_HeightsWithSlips.f hV; rw [e_snSlips _ up s (by omega), e_snWall, e_l1In]; simp only [Option.bind_some, decide_eq_true_eq, spec_HeightsWithSlips.j0]
  by_cases h : gs up s <;> by_cases h2 : gw w <;> by_cases h3 : 1 ≤ days ∧ days ≤ 1000 <;> simp [h, h2, h3]
  have h4 := h2; unfold gw at h4
  have := e_sHws_l0 up s w days h h2 (by omega) days.toNat 0 k 0 [] (by omega) (by omega) (by omega) (by simp) (by omega)
  simpa using this
theorem rep_set (pre : List Int) (n : Nat) (v : Int) : (pre ++ List.replicate (n + 1) 0).set pre.length v = (pre ++ [v]) ++ List.replicate n 0 := by
  rw [List.set_append_right _ _ (by omega), Nat.sub_self, List.replicate_succ, List.set_cons_zero]; simp
theorem rd_mid (pre : List Int) (v : Int) (t : List Int) : rd ((pre ++ [v]) ++ t) (pre.length : Int) = v := by
  rw [rdn]; simp [List.getD_eq_getElem?_getD]
theorem e_iHws_l0 (up : Int) (s : List Int) (w days : Int) (g : gs up s) (hw : gw w) (hd : days ≤ 1000) : ∀ (n k : Nat) (m : Int) (acc : List Int), (acc.length : Int) + n = days → 0 ≤ m → m ≤ w → n < k → impl_HeightsWithSlips.l0 k up s w (acc ++ List.replicate n 0) m days (acc.length : Int) = some (acc ++ hL up s w n acc.length m, true) := by
  have g' := g
  obtain ⟨g1, g2, g3⟩ := g'
  have hw' := hw; unfold gw at hw'
  intro n
  induction n with
  | zero =>
    intro k m acc h1 h2 h3 hk
    obtain ⟨k, rfl, hk⟩ := round1 hk
    simp only [impl_HeightsWithSlips.l0, hL]
    rw [if_neg (by omega)]; simp
  | succ n ih =>
    intro k m acc h1 h2 h3 hk
    obtain ⟨k, rfl, hk⟩ := round1 hk
    have hs := sl_bd up s g acc.length
    have hm := Nat.mod_lt acc.length (show s.length > 0 by omega)
    have e0 : mn w (m + up) = min w (m + up) := by unfold mn; omega
    simp only [impl_HeightsWithSlips.l0, hL]
    rw [if_pos (by omega), if_pos (by omega), if_pos (by simp; omega), w64 (m + up) (by omega) (by omega), e0, show ((acc.length : Int)).toNat = acc.length by omega, rep_set]
    simp only [Option.bind_some]
    rw [if_neg (by omega), tmod_nat, if_pos (by omega), if_pos (by omega), rd_mid, rdn, show s.getD (acc.length % s.length) 0 = sl s acc.length from rfl, w64 (min w (m + up) - sl s acc.length) (by omega) (by omega), w64 ((acc.length : Int) + 1) (by omega) (by omega)]
    have e1 : mx 0 (min w (m + up) - sl s acc.length) = max 0 (min w (m + up) - sl s acc.length) := by unfold mx; omega
    have e2 : (acc.length : Int) + 1 = ((acc ++ [min w (m + up)]).length : Int) := by simp
    rw [e1, e2]
    by_cases d : min w (m + up) = w
    · rw [if_pos d, if_pos d, ih k w (acc ++ [min w (m + up)]) (by simp; omega) (by omega) (by omega) (by omega)]
      simp
    · rw [if_neg d, if_neg d, ih k _ (acc ++ [min w (m + up)]) (by simp; omega) (by omega) (by omega) (by omega)]
      simp
theorem e_iHws (k : Nat) (up : Int) (s : List Int) (w days : Int) (hk : 2000 < k) : impl_HeightsWithSlips.f k up s w days = some (hV up s w days) := by
  obtain ⟨k, rfl⟩ : ∃ m, k = m + 1 := ⟨k - 1, by omega⟩
  unfold impl_HeightsWithSlips.f hV; rw [e_areSlips _ up s (by omega), e_isWall, e_within]; simp only [Option.bind_some, decide_eq_true_eq, impl_HeightsWithSlips.j0]
  by_cases h : gs up s <;> by_cases h2 : gw w <;> by_cases h3 : 1 ≤ days ∧ days ≤ 1000 <;> simp [h, h2, h3]
  have h4 := h2; unfold gw at h4
  have := e_iHws_l0 up s w days h h2 (by omega) days.toNat k 0 [] (by simp; omega) (by omega) (by omega) (by omega)
  refine ⟨by omega, by omega, ?_⟩
  rw [show max days 0 = days by omega]
  simpa using this
theorem FnExactHeightsWithSlips : ∀ (a0 : Int) (l1 : List Int) (a2 : Int) (a3 : Int), (Lit.int .i64 a0).wf = true → l1.length ≤ maxLen → l1.length * 8 ≤ 140737488351232 → (∀ x ∈ l1, (Lit.int .i64 x).wf = true) → (Lit.int .i64 a2).wf = true → (Lit.int .i64 a3).wf = true → ∃ k, laws_FnExactHeightsWithSlips.f k a0 l1 a2 a3 = some true := by
  intro up s w days _ _ _ _ _ _
  refine ⟨100000000, ?_⟩
  unfold laws_FnExactHeightsWithSlips.f
  by_cases h : (s.length : Int) > 1048576
  · rw [if_pos h]
  · rw [if_neg h]
    have ht : ∀ k, 2000000 < k → laws_toIntS.f k s = some s := fun k hk => e_toIntS k s (by omega) (by omega)
    have hq : ∀ k, 2000000 < k → laws_eqIntS.f k s s = some true := fun k hk => e_eqIntS k s (by omega) (by omega)
    have hs : ∀ k, 2000000 < k → spec_HeightsWithSlips.f k up s w days = some (hV up s w days) := fun k hk => e_sHws k up s w days (by omega)
    have hi : ∀ k, 2000000 < k → impl_HeightsWithSlips.f k up s w days = some (hV up s w days) := fun k hk => e_iHws k up s w days (by omega)
    have hl : (hV up s w days).1.length ≤ 1000 := by
      unfold hV; split
      · show (hL up s w days.toNat 0 0).length ≤ 1000
        rw [hL_len]; omega
      · simp
    have hvq : ∀ k, 2000000 < k → laws_eqIntS.f k (hV up s w days).1 (hV up s w days).1 = some true := fun k hk => e_eqIntS k _ (by omega) (by omega)
    have hmk : ∀ k, 2000000 < k → ∀ l : List Int, l.length ≤ 1048576 → laws_markIntS.f k l 1 = some (1 + (l.length : Int), markL l 1 l.length 0) := fun k hk l hl => e_markIntS k l (by omega) (by omega)
    have hhd : ∀ k, 2000000 < k → ∀ l : List Int, l.length ≤ 1048576 → laws_heldIntS.f k (markL l 1 l.length 0) 1 = some (1 + (l.length : Int)) := fun k hk l hl => e_heldIntS k l (by omega) (by omega)
    generalize hV up s w days = v at *
    simp only [ht 100000000 (by omega), hs 100000000 (by omega), hi 100000000 (by omega), hvq 100000000 (by omega), Option.bind_some, if_true, bne_self_eq_false]
    rw [show (100000000 : Nat) = 99999997 + 3 from rfl]
    simp only [laws_FnExactHeightsWithSlips.j0, ht (99999997 + 2) (by omega), hq (99999997 + 2) (by omega), hmk (99999997 + 2) (by omega) s (by omega), hvq (99999997 + 2) (by omega), Option.bind_some, if_true, bne_self_eq_false]
    simp only [laws_FnExactHeightsWithSlips.j1, laws_FnExactHeightsWithSlips.j2, ht (99999997 + 1) (by omega), hi (99999997 + 1) (by omega), hmk (99999997 + 1) (by omega) v.1 (by omega), hhd (99999997 + 1) (by omega) v.1 (by omega), hhd 99999997 (by omega) v.1 (by omega), hvq (99999997 + 1) (by omega), Option.bind_some, if_true, bne_self_eq_false, Bool.false_eq_true, if_false]
    have e1 : ¬ ((1 : Int) + (s.length : Int) < 0) := by omega
    have e2 : ¬ ((1 : Int) + (v.1.length : Int) < 0) := by omega
    simp [e1, e2]

end Go.Proofs.Ytbbglmoenjdloaa.Pure
