/- The pure statement of the law FnExactFirstMeet: what the program's function computes is what the reference's computes. -/
import Derived.Test.YtenmmjfnlaondaaOFnExactFirstMeetx2
namespace Go.Proofs.Ytenmmjfnlaondaa.Pure
open Go.RowKit Go.Proofs.Ytenmmjfnlaondaa.OFnExactFirstMeet Go.Proofs.YtenmmjfnlaondaaW.PrintWords Go.Proofs.YtenmmjfnlaondaaW.PrintLast Go.Proofs.YtenmmjfnlaondaaW.PrintMore
set_option linter.unusedVariables false
set_option linter.unusedSimpArgs false
theorem w64 (n : Int) (h1 : -9223372036854775808 ≤ n) (h2 : n ≤ 9223372036854775807) : wrap64 n = n := by unfold wrap64; omega
theorem dec_and (p q : Prop) [Decidable p] [Decidable q] [Decidable (p ∧ q)] : (if p then some (decide q) else some false) = some (decide (p ∧ q)) := by
  by_cases h : p <;> by_cases h' : q <;> simp [h, h']
theorem le_cases (a b c : Int) : (if a ≥ b then some (decide (a ≤ c)) else some false) = some (decide (b ≤ a ∧ a ≤ c)) := by
  by_cases h : b ≤ a <;> by_cases h' : a ≤ c <;> simp [h, h']
def gd (u d : Int) : Prop := 1 ≤ u ∧ u ≤ 1000 ∧ 0 ≤ d ∧ d ≤ 1000
instance (u d : Int) : Decidable (gd u d) := by unfold gd; infer_instance
def gk (p s : Int) : Prop := -1000 ≤ p ∧ p ≤ 1000 ∧ -100 ≤ s ∧ s ≤ 100
instance (p s : Int) : Decidable (gk p s) := by unfold gk; infer_instance
def gw (w : Int) : Prop := 1 ≤ w ∧ w ≤ 1000000
instance (w : Int) : Decidable (gw w) := by unfold gw; infer_instance
def reach (u d day : Int) : Int := if u ≤ d then u else u + (day - 1) * (u - d)
def dayH (u d h : Int) : Int := if h ≤ u then 1 else if u ≤ d then 0 else 1 + (h - u + (u - d) - 1) / (u - d)
theorem mul_bd (a b A B : Int) (h1 : 0 ≤ a) (h2 : a ≤ A) (h3 : 0 ≤ b) (h4 : b ≤ B) : 0 ≤ a * b ∧ a * b ≤ A * B :=
  ⟨Int.mul_nonneg h1 h3, Int.mul_le_mul h2 h4 h3 (by omega)⟩
theorem reach_bd (u d day : Int) (g : gd u d) (w : gw day) : u ≤ reach u d day ∧ reach u d day ≤ 1000000000 := by
  unfold gd at g; unfold gw at w; unfold reach
  split
  · omega
  · have := mul_bd (day - 1) (u - d) 999999 1000 (by omega) (by omega) (by omega) (by omega)
    omega
theorem div_bd (x g : Int) (hg : 1 ≤ g) (hx : 0 ≤ x) : 0 ≤ x / g ∧ x / g ≤ x :=
  ⟨Int.ediv_nonneg hx (by omega), Int.ediv_le_self _ hx⟩
theorem dayH_bd (u d h : Int) (g : gd u d) (hh : h ≤ 1000000) : 0 ≤ dayH u d h ∧ dayH u d h ≤ 1001000 := by
  unfold gd at g; unfold dayH
  split
  · omega
  · split
    · omega
    · have := div_bd (h - u + (u - d) - 1) (u - d) (by omega) (by omega)
      omega
theorem ceil_le (x g n : Int) (hg : 1 ≤ g) : (x + g - 1) / g ≤ n ↔ x ≤ n * g := by
  have h : (x + g - 1) / g < n + 1 ↔ x + g - 1 < (n + 1) * g := Int.ediv_lt_iff_lt_mul (by omega)
  have e : (n + 1) * g = n * g + g := by rw [Int.add_mul, Int.one_mul]
  rw [e] at h
  constructor
  · intro k; have := h.mp (by omega); omega
  · intro k; have := h.mpr (by omega); omega
/-- The day is reached at the end of a day just if that day is not before it. -/
theorem dayH_le (u d h day : Int) (hd : 1 ≤ day) : (0 < dayH u d h ∧ dayH u d h ≤ day) ↔ h ≤ reach u d day := by
  unfold dayH reach
  by_cases h1 : h ≤ u
  · rw [if_pos h1]
    split
    · omega
    · have := Int.mul_nonneg (show 0 ≤ day - 1 by omega) (show 0 ≤ u - d by omega)
      omega
  · rw [if_neg h1]
    by_cases h2 : u ≤ d
    · rw [if_pos h2, if_pos h2]; omega
    · rw [if_neg h2, if_neg h2]
      have a := Int.ediv_nonneg (show 0 ≤ h - u + (u - d) - 1 by omega) (show 0 ≤ u - d by omega)
      have c := ceil_le (h - u) (u - d) (day - 1) (by omega)
      constructor
      · rintro ⟨_, k⟩; have := c.mp (by omega); omega
      · intro k; have := c.mpr (by omega); omega
def daysV (u d w : Int) : Int × Bool := if gd u d ∧ gw w then (dayH u d w, decide (0 < dayH u d w)) else (0, false)
def greatV (u d w : Int) : Int × Bool := if gd u d ∧ gw w then (reach u d w, true) else (0, false)
def evenV (u d w day : Int) : Int × Bool := if (gd u d ∧ gw w) ∧ gw day then (min w (reach u d day), true) else (0, false)
def mornV (u d w day : Int) : Int × Bool := if (gd u d ∧ gw w) ∧ gw day then (if day = 1 then 0 else if min w (reach u d (day - 1)) = w then w else max 0 (min w (reach u d (day - 1)) - d), true) else (0, false)
def mornI (u d w day : Int) : Int := if day = 1 then 0 else if min w (reach u d (day - 1)) = w then w else max 0 (min w (reach u d (day - 1)) - d)
def dayV (u d w h : Int) : Int × Bool := if (gd u d ∧ gw w) ∧ 0 ≤ h ∧ h ≤ w then (dayH u d h, decide (0 < dayH u d h)) else (0, false)
def leadV (u d u' d' w day : Int) : Int × Bool := if ((gd u d ∧ gw w) ∧ gd u' d') ∧ gw day then (min w (reach u d day) - min w (reach u' d' day), true) else (0, false)
def upL (P : Int → Bool) : Nat → Int → Int × Bool
  | 0, _ => (0, false)
  | n + 1, up => if P up = true then (up, true) else upL P n (up + 1)
def slowP (w days d up : Int) : Bool := decide (w ≤ reach up d days)
def slowV (w days d : Int) : Int × Bool := if (gw w ∧ gw days) ∧ 0 ≤ d ∧ d ≤ 1000 then upL (slowP w days d) 1000 1 else (0, false)
def downL (P : Int → Bool) : Nat → Int → Int × Bool
  | 0, _ => (0, false)
  | n + 1, x => if P x = true then (x, true) else downL P n (x - 1)
def mostP (w days u x : Int) : Bool := decide (w ≤ reach u x days)
def mostV (w days u : Int) : Int × Bool := if (gw w ∧ gw days) ∧ 1 ≤ u ∧ u ≤ 1000 then downL (mostP w days u) 1001 1000 else (0, false)
theorem e_within (a b c : Int) : impl_within.f a b c = some (decide (b ≤ a ∧ a ≤ c)) := by
  unfold impl_within.f; exact le_cases a b c
theorem e_l1In (a b c : Int) : spec_l1In.f a b c = some (decide (b ≤ a ∧ a ≤ c)) := by
  unfold spec_l1In.f; exact le_cases a b c
theorem uniq (a b q r : Int) (hb : 0 < b) (e : b * q + r = a) (h0 : 0 ≤ r) (h1 : r < b) : a / b = q ∧ a % b = r :=
  (Int.ediv_emod_unique hb).mpr ⟨by rw [← e]; exact Int.add_comm _ _, h0, h1⟩
theorem tm_bd (a b : Int) (hb : 0 < b) : b * a.tdiv b + a.tmod b = a ∧ -b < a.tmod b ∧ a.tmod b < b :=
  ⟨Int.mul_tdiv_add_tmod a b, Int.lt_tmod_of_pos a hb, Int.tmod_lt_of_pos a hb⟩
theorem floor_is (a b : Int) (hb : 0 < b) : (if a.tmod b < 0 then a.tdiv b - 1 else a.tdiv b) = a / b := by
  obtain ⟨e, h0, h1⟩ := tm_bd a b hb
  split
  · have := uniq a b (a.tdiv b - 1) (a.tmod b + b) hb (by rw [Int.mul_sub]; omega) (by omega) (by omega)
    exact this.1.symm
  · have := uniq a b (a.tdiv b) (a.tmod b) hb e (by omega) h1
    exact this.1.symm
theorem mod_is (a b : Int) (hb : 0 < b) : (a.tmod b + b).tmod b = a % b := by
  obtain ⟨e, h0, h1⟩ := tm_bd a b hb
  rw [Int.tmod_eq_emod_of_nonneg (by omega), Int.add_emod_right]
  have h := Int.add_mul_emod_self_left (a.tmod b) b (a.tdiv b)
  rw [Int.add_comm, e] at h
  exact h.symm
theorem abs_mx (a : Int) : mx a (-a) = (a.natAbs : Int) := by unfold mx; split <;> omega
theorem gcd_pos (num den : Int) (h : den ≠ 0) : 0 < (Int.gcd num den : Int) := by
  have : 0 < Int.gcd num den := Int.gcd_pos_of_ne_zero_right _ h
  omega
theorem tdiv_ex (a g : Int) (h : g ∣ a) : a.tdiv g = a / g := Int.tdiv_eq_ediv_of_dvd h
def gt (a b : Int) : Prop := 0 ≤ a ∧ a ≤ 1000000 ∧ 1 ≤ b ∧ b ≤ 1000
instance (a b : Int) : Decidable (gt a b) := by unfold gt; infer_instance
def gr (a : Int) : Prop := 1 ≤ a ∧ a ≤ 1000
instance (a : Int) : Decidable (gr a) := by unfold gr; infer_instance
def lowN (num den : Int) : Int := (if den < 0 then -num else num) / (Int.gcd num den : Int)
def lowD (num den : Int) : Int := (if den < 0 then -den else den) / (Int.gcd num den : Int)
def placeV (p s num den : Int) : Int := p * den + s * num
def wpV (p s num den : Int) : Int × Int × Bool := if gk p s ∧ gt num den then (lowN (placeV p s num den) den, lowD (placeV p s num den) den, true) else (0, 0, false)
def gapV (p s p' s' num den : Int) : Int := ((placeV p s num den - placeV p' s' num den).natAbs : Int)
def gaV (p s p' s' num den : Int) : Int × Int × Bool := if (gk p s ∧ gk p' s') ∧ gt num den then (lowN (gapV p s p' s' num den) den, lowD (gapV p s p' s' num den) den, true) else (0, 0, false)
def meetV (p s p' s' : Int) : Int × Int × Bool := if p = p' then (0, 1, true) else if s = s' then (0, 0, false) else if lowN (p' - p) (s - s') < 0 then (0, 0, false) else (lowN (p' - p) (s - s'), lowD (p' - p) (s - s'), true)
def mtV (p s p' s' : Int) : Int × Int × Bool := if gk p s ∧ gk p' s' then meetV p s p' s' else (0, 0, false)
def mpV (p s p' s' : Int) : Int × Int × Bool := if (gk p s ∧ gk p' s') ∧ (meetV p s p' s').2.2 = true then (lowN (placeV p s (meetV p s p' s').1 (meetV p s p' s').2.1) (meetV p s p' s').2.1, lowD (placeV p s (meetV p s p' s').1 (meetV p s p' s').2.1) (meetV p s p' s').2.1, true) else (0, 0, false)
def ringV (a p s p' s' : Int) : Int × Int := if s < s' then ((p - p') % a, s' - s) else ((p' - p) % a, s - s')
def ringV' (a p s p' s' : Int) : Int × Int := if s < s' then ((p - p') % a, s' - s) else ((p' - p) % a, s - s')
def rgV (a p s p' s' : Int) : Int × Int × Bool := if ((gr a ∧ gk p s) ∧ gk p' s') ∧ ¬ s = s' then (lowN a ((s - s').natAbs : Int), lowD a ((s - s').natAbs : Int), true) else (0, 0, false)
def crV (a p s p' s' t : Int) : Int × Bool := if (((gr a ∧ gk p s) ∧ gk p' s') ∧ ¬ s = s') ∧ 0 ≤ t ∧ t ≤ 1000 then (if t * (ringV a p s p' s').2 < (ringV a p s p' s').1 then 0 else (t * (ringV a p s p' s').2 - (ringV a p s p' s').1) / a + 1, true) else (0, false)
theorem div_abs (a g : Int) (hg : 1 ≤ g) (B : Int) (h : -B ≤ a ∧ a ≤ B) : -B ≤ a / g ∧ a / g ≤ B := by
  constructor
  · have : -B ≤ a / g ↔ -B * g ≤ a := Int.le_ediv_iff_mul_le (by omega)
    refine this.mpr ?_
    have hB : 0 ≤ B := by omega
    have := Int.mul_le_mul_of_nonneg_left hg hB
    rw [Int.neg_mul]; omega
  · rcases Int.lt_or_le a 0 with h' | h'
    · have : a / g < 0 ↔ a < 0 * g := Int.ediv_lt_iff_lt_mul (by omega)
      have := this.mpr (by omega)
      omega
    · have := Int.ediv_le_self g h'
      omega
theorem low_bd (num den B : Int) (hd : den ≠ 0) (h1 : -B ≤ num ∧ num ≤ B) (h2 : -B ≤ den ∧ den ≤ B) : (-B ≤ lowN num den ∧ lowN num den ≤ B) ∧ (1 ≤ lowD num den ∧ lowD num den ≤ B) := by
  have hg := gcd_pos num den hd
  refine ⟨?_, ?_⟩
  · unfold lowN; exact div_abs _ _ (by omega) B (by split <;> omega)
  · have h := div_abs (if den < 0 then -den else den) (Int.gcd num den : Int) (by omega) B (by split <;> omega)
    unfold lowD
    refine ⟨?_, h.2⟩
    have hd' : (Int.gcd num den : Int) ∣ (if den < 0 then -den else den) := by
      split
      · exact Int.dvd_neg.mpr (Int.gcd_dvd_right ..)
      · exact Int.gcd_dvd_right ..
    have hp : 0 < (if den < 0 then -den else den) := by split <;> omega
    have := Int.ediv_pos_of_pos_of_dvd hp (by omega) hd'
    omega
theorem lowN_neg (num den : Int) (hd : den ≠ 0) : lowN num den < 0 ↔ (if den < 0 then -num else num) < 0 := by
  have hg := gcd_pos num den hd
  unfold lowN
  have : (if den < 0 then -num else num) / (Int.gcd num den : Int) < 0 ↔ (if den < 0 then -num else num) < 0 * (Int.gcd num den : Int) := Int.ediv_lt_iff_lt_mul (by omega)
  rw [Int.zero_mul] at this
  exact this
theorem ediv_min (a g : Int) (h : g ∣ a) (hg : g ≠ 0) : -a / g = -(a / g) := Int.neg_ediv_of_dvd h
theorem abs_mul (a b A B : Int) (h1 : -A ≤ a ∧ a ≤ A) (h2 : 0 ≤ b ∧ b ≤ B) : -(A * B) ≤ a * b ∧ a * b ≤ A * B := by
  have hA : 0 ≤ A := by omega
  have t : A * b ≤ A * B := Int.mul_le_mul_of_nonneg_left h2.2 hA
  have t1 : a * b ≤ A * b := Int.mul_le_mul_of_nonneg_right h1.2 h2.1
  have t2 : -A * b ≤ a * b := Int.mul_le_mul_of_nonneg_right h1.1 h2.1
  rw [Int.neg_mul] at t2
  omega
theorem rdn (l : List Int) (i : Nat) : rd l (i : Int) = l.getD i 0 := by simp [rd]
theorem drop_cons (l : List Int) (i : Nat) (h : i < l.length) : l.drop i = l.getD i 0 :: l.drop (i + 1) := by
  rw [List.drop_eq_getElem_cons h]; simp [List.getD_eq_getElem?_getD, h]
theorem getD_mem (l : List Int) (i : Nat) (h : i < l.length) : l.getD i 0 ∈ l := by
  simp [List.getD_eq_getElem?_getD, h]
theorem round1 {k n : Nat} (h : n < k) : ∃ m, k = m + 1 ∧ n ≤ m := ⟨k - 1, by omega, by omega⟩
def gs (up : Int) (s : List Int) : Prop := (1 ≤ up ∧ up ≤ 1000) ∧ (1 ≤ (s.length : Int) ∧ (s.length : Int) ≤ 12) ∧ ∀ x ∈ s, 0 ≤ x ∧ x ≤ 1000
instance (up : Int) (s : List Int) : Decidable (gs up s) := by unfold gs; infer_instance
/-- The slip of the night behind day j + 1. -/
def sl (s : List Int) (j : Nat) : Int := s.getD (j % s.length) 0
theorem sl_bd (up : Int) (s : List Int) (g : gs up s) (j : Nat) : 0 ≤ sl s j ∧ sl s j ≤ 1000 := by
  obtain ⟨_, h, ha⟩ := g
  exact ha _ (getD_mem s _ (Nat.mod_lt _ (by omega)))
theorem tmod_nat (j n : Nat) : Int.tmod (j : Int) (n : Int) = ((j % n : Nat) : Int) := by
  rw [Int.tmod_eq_emod_of_nonneg (by omega), Int.natCast_emod]
/-- How far it comes at most: rounds left, day, height in the morning, most so far. -/
def gsL (up : Int) (s : List Int) : Nat → Nat → Int → Int → Int
  | 0, _, _, most => most
  | n + 1, j, m, most => gsL up s n (j + 1) (max 0 (m + up - sl s j)) (max most (m + up))
def gwsV (up : Int) (s : List Int) (days : Int) : Int × Bool := if gs up s ∧ gw days then (gsL up s days.toNat 0 0 0, true) else (0, false)
/-- How high it is in the morning before day j + 1, if there is no top. -/
def mor (up : Int) (s : List Int) : Nat → Int
  | 0 => 0
  | j + 1 => max 0 (mor up s j + up - sl s j)
theorem mor_bd (up : Int) (s : List Int) (g : gs up s) : ∀ j : Nat, 0 ≤ mor up s j ∧ mor up s j ≤ j * 1000 := by
  intro j
  induction j with
  | zero => simp [mor]
  | succ j ih =>
    have hs := sl_bd up s g j
    have g1 := g.1
    simp only [mor]
    omega
theorem sl_per (s : List Int) (j : Nat) : sl s (j + s.length) = sl s j := by unfold sl; rw [Nat.add_mod_right]
theorem mor_step (up : Int) (s : List Int) (a : Nat) (h : mor up s (a + s.length) ≤ mor up s a) : ∀ t, mor up s (a + t + s.length) ≤ mor up s (a + t) := by
  intro t
  induction t with
  | zero => exact h
  | succ t ih =>
    have e : a + (t + 1) + s.length = (a + t + s.length) + 1 := by omega
    rw [e, show a + (t + 1) = (a + t) + 1 by omega]
    simp only [mor]
    rw [sl_per s (a + t)]
    omega
theorem mor_never (up w : Int) (s : List Int) (hs : 1 ≤ s.length) (a : Nat) (h : mor up s (a + s.length) ≤ mor up s a) (hb : ∀ i, i < a + s.length → mor up s i + up < w) : ∀ j, mor up s j + up < w := by
  intro j
  induction j using Nat.strongRecOn with
  | ind j ih =>
    rcases Nat.lt_or_ge j (a + s.length) with h1 | h1
    · exact hb j h1
    · have := mor_step up s a h (j - s.length - a)
      rw [show a + (j - s.length - a) + s.length = j by omega, show a + (j - s.length - a) = j - s.length by omega] at this
      have := ih (j - s.length) (by omega)
      omega
/-- What the day of the top is: the first one, or that there is none. -/
def DS (up : Int) (s : List Int) (w : Int) (r : Int × Bool) : Prop :=
  (∃ j : Nat, r = ((j : Int) + 1, true) ∧ mor up s j + up ≥ w ∧ ∀ i, i < j → mor up s i + up < w) ∨ (r = (0, false) ∧ ∀ j, mor up s j + up < w)
theorem DS_one (up : Int) (s : List Int) (w : Int) (r r' : Int × Bool) (h : DS up s w r) (h' : DS up s w r') : r = r' := by
  rcases h with ⟨j, e, a, b⟩ | ⟨e, a⟩ <;> rcases h' with ⟨j', e', a', b'⟩ | ⟨e', a'⟩
  · rcases Nat.lt_trichotomy j j' with h | h | h
    · have := b' j h; omega
    · rw [e, e', h]
    · have := b j' h; omega
  · have := a' j; omega
  · have := a j'; omega
  · rw [e, e']
def gtr (lap p s : Int) : Prop := (2 ≤ lap ∧ lap ≤ 1000) ∧ (0 ≤ p ∧ p ≤ lap - 1) ∧ 1 ≤ s ∧ s ≤ 100
instance (lap p s : Int) : Decidable (gtr lap p s) := by unfold gtr; infer_instance
def grt (t : Int) : Prop := 0 ≤ t ∧ t ≤ 1000000
instance (t : Int) : Decidable (grt t) := by unfold grt; infer_instance
def glp (t : Int) : Prop := 1 ≤ t ∧ t ≤ 100
instance (t : Int) : Decidable (glp t) := by unfold glp; infer_instance
theorem e_toRunner (u d : Int) : laws_toRunner.f u d = some (u, d) := rfl
theorem e_trLap (a : Int) : spec_trLap.f a = some (decide (2 ≤ a ∧ a ≤ 1000)) := by
  unfold spec_trLap.f; simp only [e_l1In, Option.bind_some]
theorem e_trRunner (lap p s : Int) : spec_trRunner.f lap p s = some (decide (gtr lap p s)) := by
  unfold spec_trRunner.f; simp only [e_trLap, e_l1In, Option.bind_some]
  by_cases h : 2 ≤ lap ∧ lap ≤ 1000
  · rw [w64 (lap - 1) (by omega) (by omega)]
    by_cases h1 : 0 ≤ p ∧ p ≤ lap - 1 <;> by_cases h2 : 1 ≤ s ∧ s ≤ 100 <;> simp [gtr, h, h1, h2] <;> omega
  · simp [gtr, h]
theorem e_trTwo (lap p s p' s' : Int) : spec_trTwo.f lap p s p' s' = some (decide (gtr lap p s ∧ gtr lap p' s')) := by
  unfold spec_trTwo.f; simp only [e_trRunner, Option.bind_some]
  by_cases h : gtr lap p s <;> by_cases h' : gtr lap p' s' <;> simp [h, h']
theorem q_is (lap : Int) (h : 2 ≤ lap ∧ lap ≤ 1000) (x : S26) : impl_AreRunners.q lap x = decide (gtr lap x.f0 x.f1) := by
  unfold impl_AreRunners.q gtr
  rw [w64 (lap - 1) (by omega) (by omega)]
  exact decide_eq_decide.mpr ⟨fun z => ⟨h, z.1, z.2⟩, fun z => ⟨z.2.1, z.2.2⟩⟩
theorem e_onTrack1 (lap p s : Int) : impl_onTrack.f lap [⟨p, s⟩] = some (decide (gtr lap p s)) := by
  unfold impl_onTrack.f impl_AreRunners.f
  rw [if_pos (by simp)]
  simp only [Option.bind_some]
  congr 1
  by_cases h : 2 ≤ lap ∧ lap ≤ 1000
  · have := q_is lap h ⟨p, s⟩
    simp [h, this]
  · have : ¬ gtr lap p s := fun z => h z.1
    simp [h, this]
theorem e_onTrack2 (lap p s p' s' : Int) : impl_onTrack.f lap [⟨p, s⟩, ⟨p', s'⟩] = some (decide (gtr lap p s ∧ gtr lap p' s')) := by
  unfold impl_onTrack.f impl_AreRunners.f
  rw [if_pos (by simp)]
  simp only [Option.bind_some]
  congr 1
  by_cases h : 2 ≤ lap ∧ lap ≤ 1000
  · have a := q_is lap h ⟨p, s⟩
    have b := q_is lap h ⟨p', s'⟩
    simp [h, a, b]
  · have : ¬ gtr lap p s := fun z => h z.1
    simp [h, this]
theorem e_trFar (p s t lap : Int) (g : gtr lap p s) (h : 0 ≤ t ∧ t ≤ 1000000) : spec_trFar.f p s t = some (p + s * t) ∧ 0 ≤ p + s * t ∧ p + s * t ≤ 100001000 := by
  unfold gtr at g
  have m := mul_bd s t 100 1000000 (by omega) (by omega) (by omega) (by omega)
  unfold spec_trFar.f
  rw [w64 (s * t) (by omega) (by omega), w64 _ (by omega) (by omega)]
  exact ⟨rfl, by omega, by omega⟩
theorem e_farAt (p s t lap : Int) (g : gtr lap p s) (h : 0 ≤ t ∧ t ≤ 1000000) : impl_farAt.f p s t = some (p + s * t) ∧ 0 ≤ p + s * t ∧ p + s * t ≤ 100001000 := by
  unfold gtr at g
  have m := mul_bd s t 100 1000000 (by omega) (by omega) (by omega) (by omega)
  unfold impl_farAt.f
  rw [w64 (s * t) (by omega) (by omega), w64 _ (by omega) (by omega)]
  exact ⟨rfl, by omega, by omega⟩
theorem e_trPlace (lap p s t : Int) (g : gtr lap p s) (h : 0 ≤ t ∧ t ≤ 1000000) : spec_trPlace.f lap p s t = some ((p + s * t) % lap) := by
  have f := e_trFar p s t lap g h
  unfold gtr at g
  unfold spec_trPlace.f
  rw [f.1]; simp only [Option.bind_some]
  rw [if_neg (by omega), Int.tmod_eq_emod_of_nonneg (by omega)]
theorem fm_same (x0 : Int) (h0 : x0 ≠ 0) (p s p' s' : Int) : ∀ (k : Nat) (i : Int), impl_FirstMeet.l0 k x0 x0 i p s p' s' = spec_FirstMeet.l0 k x0 i p s p' s' := by
  intro k; induction k with
  | zero => intro i; rfl
  | succ k ih =>
    intro i
    rw [impl_FirstMeet.l0.eq_2, spec_FirstMeet.l0.eq_2]
    unfold impl_areTogether.f impl_areTogether.q impl_farAt.f spec_trPlace.f spec_trFar.f
    simp only [Option.bind_some]
    by_cases hi : i < x0
    · rw [if_pos hi, if_pos hi, if_pos ⟨by simp, h0, by simp⟩]
      simp only [if_neg h0, Option.bind_some, List.all_cons, List.all_nil, Bool.and_true, show ∀ (a b : S26), rd_T26 [a, b] 0 = a from fun _ _ => rfl, beq_self_eq_true, Bool.true_and, beq_iff_eq, ih]
      by_cases e : Int.tmod (wrap64 (p + wrap64 (s * i))) x0 = Int.tmod (wrap64 (p' + wrap64 (s' * i))) x0
      · rw [if_pos e, if_pos e.symm]
      · rw [if_neg e, if_neg (fun z => e z.symm)]
    · rw [if_neg hi, if_neg hi]
theorem fm_some (lap p s p' s' : Int) (hl : 2 ≤ lap ∧ lap ≤ 1000) : ∀ (m : Nat) (i : Int) (k : Nat), 0 ≤ i → i + m = lap → m < k → ∃ v, spec_FirstMeet.l0 k lap i p s p' s' = some v := by
  intro m; induction m with
  | zero =>
    intro i k hi hm hk
    obtain ⟨k, rfl⟩ : ∃ m, k = m + 1 := ⟨k - 1, by omega⟩
    simp only [spec_FirstMeet.l0]; rw [if_neg (by omega)]; exact ⟨_, rfl⟩
  | succ m ih =>
    intro i k hi hm hk
    obtain ⟨k, rfl⟩ : ∃ m, k = m + 1 := ⟨k - 1, by omega⟩
    rw [spec_FirstMeet.l0.eq_2]
    unfold spec_trPlace.f spec_trFar.f
    simp only [Option.bind_some]
    rw [if_pos (by omega), if_neg (by omega), if_neg (by omega)]
    simp only [Option.bind_some]
    split
    · exact ⟨_, rfl⟩
    · rw [w64 (i + 1) (by omega) (by omega)]
      exact ih (i + 1) k (by omega) (by omega) (by omega)
theorem fm_all (k : Nat) (lap p s p' s' : Int) (hk : 2000 ≤ k) : ∃ v, spec_FirstMeet.f k lap p s p' s' = some v ∧ impl_FirstMeet.f k lap p s p' s' = some v := by
  unfold spec_FirstMeet.f impl_FirstMeet.f
  rw [e_trTwo, e_onTrack2]
  simp only [Option.bind_some, decide_eq_true_eq]
  by_cases h : gtr lap p s ∧ gtr lap p' s'
  · rw [if_pos h, if_pos h]
    have hl := h.1.1
    obtain ⟨v, hv⟩ := fm_some lap p s p' s' hl lap.toNat 0 k (by omega) (by omega) (by omega)
    exact ⟨v, hv, (fm_same lap (by omega) p s p' s' k 0).trans hv⟩
  · rw [if_neg h, if_neg h]; exact ⟨_, rfl, rfl⟩

theorem evs {α : Type} {g f : Nat → Option α} {r : α} (K : Nat) (h : ∀ k, K ≤ k → g (k + 1) = f k) (k : Ev f r) : Ev g r := by
  obtain ⟨K', k⟩ := k
  refine ⟨max K K' + 1, fun n hn => ?_⟩
  obtain ⟨m, rfl⟩ : ∃ m, n = m + 1 := ⟨n - 1, by omega⟩
  rw [h m (by omega)]
  exact k m (by omega)
theorem low_neg (a b : Int) (hb : b ≠ 0) : lowN (-a) (-b) = lowN a b ∧ lowD (-a) (-b) = lowD a b := by
  have e : Int.gcd (-a) (-b) = Int.gcd a b := by simp [Int.gcd]
  unfold lowN lowD
  rw [e]
  by_cases h : b < 0
  · rw [if_pos h, if_pos h, if_neg (by omega), if_neg (by omega)]; exact ⟨rfl, rfl⟩
  · rw [if_neg h, if_neg h, if_pos (by omega), if_pos (by omega), Int.neg_neg, Int.neg_neg]; exact ⟨rfl, rfl⟩
theorem meet_sym (p s p' s' : Int) : meetV p s p' s' = meetV p' s' p s := by
  unfold meetV
  by_cases h : p = p'
  · rw [if_pos h, if_pos h.symm]
  · by_cases h2 : s = s'
    · rw [if_neg h, if_neg (fun z : p' = p => h z.symm), if_pos h2, if_pos h2.symm]
    · have q := low_neg (p' - p) (s - s') (by omega)
      rw [show -(p' - p) = p - p' by omega, show -(s - s') = s' - s by omega] at q
      rw [if_neg h, if_neg (fun z : p' = p => h z.symm), if_neg h2, if_neg (fun z : s' = s => h2 z.symm), q.1, q.2]
theorem low_cross (a b : Int) (hb : b ≠ 0) : lowN a b * b = lowD a b * a := by
  have hg := gcd_pos a b hb
  obtain ⟨u, hu⟩ : (Int.gcd a b : Int) ∣ a := Int.gcd_dvd_left ..
  obtain ⟨v, hv⟩ : (Int.gcd a b : Int) ∣ b := Int.gcd_dvd_right ..
  unfold lowN lowD
  generalize (Int.gcd a b : Int) = g at *
  subst hu hv
  by_cases h : g * v < 0
  · rw [if_pos h, if_pos h, show -(g * u) = g * (-u) by rw [Int.mul_neg], show -(g * v) = g * (-v) by rw [Int.mul_neg], Int.mul_ediv_cancel_left _ (by omega), Int.mul_ediv_cancel_left _ (by omega)]
    rw [Int.neg_mul, Int.neg_mul, Int.mul_left_comm u g v, Int.mul_left_comm v g u, Int.mul_comm u v]
  · rw [if_neg h, if_neg h, Int.mul_ediv_cancel_left _ (by omega), Int.mul_ediv_cancel_left _ (by omega)]
    rw [Int.mul_left_comm u g v, Int.mul_left_comm v g u, Int.mul_comm u v]
/-- Where they meet: the time times the difference of speeds is the gap. -/
theorem meet_cross (p s p' s' : Int) (h : (meetV p s p' s').2.2 = true) (hp : p ≠ p') : (meetV p s p' s').1 * (s - s') = (meetV p s p' s').2.1 * (p' - p) ∧ s ≠ s' := by
  unfold meetV at h ⊢
  rw [if_neg hp] at h ⊢
  by_cases h2 : s = s'
  · rw [if_pos h2] at h; simp at h
  · rw [if_neg h2] at h ⊢
    by_cases h3 : lowN (p' - p) (s - s') < 0
    · rw [if_pos h3] at h; simp at h
    · rw [if_neg h3]
      exact ⟨low_cross _ _ (by omega), h2⟩
/-- One that is faster and behind is met. -/
theorem meet_ok (p s p' s' : Int) (hp : p < p') (hs : s > s') : (meetV p s p' s').2.2 = true := by
  unfold meetV
  have q := lowN_neg (p' - p) (s - s') (by omega)
  rw [if_neg (by omega), if_neg (by omega), if_neg]
  intro z
  have := q.mp z
  rw [if_neg (by omega)] at this
  omega
theorem mul_pos' {a b : Int} (ha : 0 < a) (hb : 0 < b) : 0 < a * b := Int.mul_pos ha hb
/-- a/b ≤ x/y and x/y ≤ u/v. -/
theorem frac_trans (a b x y u v : Int) (hb : 0 < b) (hy : 0 < y) (hv : 0 < v) (h1 : a * y ≤ x * b) (h2 : x * v ≤ u * y) : a * v ≤ u * b := by
  have e1 : a * y * v ≤ x * b * v := Int.mul_le_mul_of_nonneg_right h1 (by omega)
  have e2 : x * v * b ≤ u * y * b := Int.mul_le_mul_of_nonneg_right h2 (by omega)
  have e3 : (a * v) * y ≤ (u * b) * y := by
    rw [show (a * v) * y = a * y * v by rw [Int.mul_right_comm], show (u * b) * y = u * y * b by rw [Int.mul_right_comm]]
    rw [show x * b * v = x * v * b by rw [Int.mul_right_comm]] at e1
    omega
  exact Int.le_of_mul_le_mul_right e3 hy
theorem FnExactFirstMeet : ∀ (a0 : Int) (a1_0 : Int) (a1_1 : Int) (a2_0 : Int) (a2_1 : Int), (Lit.int .i64 a0).wf = true → (Lit.int .i64 a1_0).wf = true → (Lit.int .i64 a1_1).wf = true → (Lit.int .i64 a2_0).wf = true → (Lit.int .i64 a2_1).wf = true → ∃ k, laws_FnExactFirstMeet.f k a0 a1_0 a1_1 a2_0 a2_1 = some true := by
  intros
  refine ⟨2000, ?_⟩
  unfold laws_FnExactFirstMeet.f
  rename_i lap p s p' s' _ _ _ _ _
  obtain ⟨v, h1, h2⟩ := fm_all 2000 lap p s p' s' (by omega)
  simp only [e_toRunner, Option.bind_some, h1, h2, if_true, bne_self_eq_false, Bool.false_eq_true, if_false]

end Go.Proofs.Ytenmmjfnlaondaa.Pure
