/- The pure statement of the law FnExactParseWalkers: what the program's function computes is what the reference's computes. -/
import Derived.Test.YtajocgijmcbmnaaDoorTxPWL
namespace Go.Proofs.YtajocgijmcbmnaaDoor.Pure
open Go.RowKit Go.Proofs.YtajocgijmcbmnaaDoor.Tx Go.Proofs.YtajocgijmcbmnaaDoor.OFnExactParseWalkers Go.Proofs.YtajocgijmcbmnaaDoorW.PrintWords Go.Proofs.YtajocgijmcbmnaaDoorW.PrintLast Go.Proofs.YtajocgijmcbmnaaDoorW.PrintMore
set_option linter.unusedVariables false
set_option linter.unusedSimpArgs false
theorem w64 (n : Int) (h1 : -9223372036854775808 ≤ n) (h2 : n ≤ 9223372036854775807) : wrap64 n = n := by unfold wrap64; omega
theorem dec_and (p q : Prop) [Decidable p] [Decidable q] [Decidable (p ∧ q)] : (if p then some (decide q) else some false) = some (decide (p ∧ q)) := by
  by_cases h : p <;> by_cases h' : q <;> simp [h, h']
theorem le_cases (a b c : Int) : (if a ≥ b then some (decide (a ≤ c)) else some false) = some (decide (b ≤ a ∧ a ≤ c)) := by
  by_cases h : b ≤ a <;> by_cases h' : a ≤ c <;> simp [h, h']
def gd (u d : Int) : Prop := 1 ≤ u ∧ u ≤ 1000 ∧ 0 ≤ d ∧ d ≤ 1000
instance (u d : Int) : Decidable (gd u d) := by unfold gd; infer_instance
def gk (p s : Int) : Prop := -1000 ≤ p ∧ p ≤ 1000 ∧ -100 ≤ s ∧ s ≤ 100
instance (p s : Int) : Decidable (gk p s) := by unfold gk; infer_instance
def gw (w : Int) : Prop := 1 ≤ w ∧ w ≤ 1000000
instance (w : Int) : Decidable (gw w) := by unfold gw; infer_instance
def reach (u d day : Int) : Int := if u ≤ d then u else u + (day - 1) * (u - d)
def dayH (u d h : Int) : Int := if h ≤ u then 1 else if u ≤ d then 0 else 1 + (h - u + (u - d) - 1) / (u - d)
theorem mul_bd (a b A B : Int) (h1 : 0 ≤ a) (h2 : a ≤ A) (h3 : 0 ≤ b) (h4 : b ≤ B) : 0 ≤ a * b ∧ a * b ≤ A * B :=
  ⟨Int.mul_nonneg h1 h3, Int.mul_le_mul h2 h4 h3 (by omega)⟩
theorem reach_bd (u d day : Int) (g : gd u d) (w : gw day) : u ≤ reach u d day ∧ reach u d day ≤ 1000000000 := by
  unfold gd at g; unfold gw at w; unfold reach
  split
  · omega
  · have := mul_bd (day - 1) (u - d) 999999 1000 (by omega) (by omega) (by omega) (by omega)
    omega
theorem div_bd (x g : Int) (hg : 1 ≤ g) (hx : 0 ≤ x) : 0 ≤ x / g ∧ x / g ≤ x :=
  ⟨Int.ediv_nonneg hx (by omega), Int.ediv_le_self _ hx⟩
theorem dayH_bd (u d h : Int) (g : gd u d) (hh : h ≤ 1000000) : 0 ≤ dayH u d h ∧ dayH u d h ≤ 1001000 := by
  unfold gd at g; unfold dayH
  split
  · omega
  · split
    · omega
    · have := div_bd (h - u + (u - d) - 1) (u - d) (by omega) (by omega)
      omega
theorem ceil_le (x g n : Int) (hg : 1 ≤ g) : (x + g - 1) / g ≤ n ↔ x ≤ n * g := by
  have h : (x + g - 1) / g < n + 1 ↔ x + g - 1 < (n + 1) * g := Int.ediv_lt_iff_lt_mul (by omega)
  have e : (n + 1) * g = n * g + g := by rw [Int.add_mul, Int.one_mul]
  rw [e] at h
  constructor
  · intro k; have := h.mp (by omega); omega
  · intro k; have := h.mpr (by omega); omega
/-- The day is reached at the end of a day just if that day is not before it. -/
theorem dayH_le (u d h day : Int) (hd : 1 ≤ day) : (0 < dayH u d h ∧ dayH u d h ≤ day) ↔ h ≤ reach u d day := by
  unfold dayH reach
  by_cases h1 : h ≤ u
  · rw [if_pos h1]
    split
    · omega
    · have := Int.mul_nonneg (show 0 ≤ day - 1 by omega) (show 0 ≤ u - d by omega)
      omega
  · rw [if_neg h1]
    by_cases h2 : u ≤ d
    · rw [if_pos h2, if_pos h2]; omega
    · rw [if_neg h2, if_neg h2]
      have a := Int.ediv_nonneg (show 0 ≤ h - u + (u - d) - 1 by omega) (show 0 ≤ u - d by omega)
      have c := ceil_le (h - u) (u - d) (day - 1) (by omega)
      constructor
      · rintro ⟨_, k⟩; have := c.mp (by omega); omega
      · intro k; have := c.mpr (by omega); omega
def daysV (u d w : Int) : Int × Bool := if gd u d ∧ gw w then (dayH u d w, decide (0 < dayH u d w)) else (0, false)
def greatV (u d w : Int) : Int × Bool := if gd u d ∧ gw w then (reach u d w, true) else (0, false)
def evenV (u d w day : Int) : Int × Bool := if (gd u d ∧ gw w) ∧ gw day then (min w (reach u d day), true) else (0, false)
def mornV (u d w day : Int) : Int × Bool := if (gd u d ∧ gw w) ∧ gw day then (if day = 1 then 0 else if min w (reach u d (day - 1)) = w then w else max 0 (min w (reach u d (day - 1)) - d), true) else (0, false)
def mornI (u d w day : Int) : Int := if day = 1 then 0 else if min w (reach u d (day - 1)) = w then w else max 0 (min w (reach u d (day - 1)) - d)
def dayV (u d w h : Int) : Int × Bool := if (gd u d ∧ gw w) ∧ 0 ≤ h ∧ h ≤ w then (dayH u d h, decide (0 < dayH u d h)) else (0, false)
def leadV (u d u' d' w day : Int) : Int × Bool := if ((gd u d ∧ gw w) ∧ gd u' d') ∧ gw day then (min w (reach u d day) - min w (reach u' d' day), true) else (0, false)
def upL (P : Int → Bool) : Nat → Int → Int × Bool
  | 0, _ => (0, false)
  | n + 1, up => if P up = true then (up, true) else upL P n (up + 1)
def slowP (w days d up : Int) : Bool := decide (w ≤ reach up d days)
def slowV (w days d : Int) : Int × Bool := if (gw w ∧ gw days) ∧ 0 ≤ d ∧ d ≤ 1000 then upL (slowP w days d) 1000 1 else (0, false)
def downL (P : Int → Bool) : Nat → Int → Int × Bool
  | 0, _ => (0, false)
  | n + 1, x => if P x = true then (x, true) else downL P n (x - 1)
def mostP (w days u x : Int) : Bool := decide (w ≤ reach u x days)
def mostV (w days u : Int) : Int × Bool := if (gw w ∧ gw days) ∧ 1 ≤ u ∧ u ≤ 1000 then downL (mostP w days u) 1001 1000 else (0, false)
theorem e_within (a b c : Int) : impl_within.f a b c = some (decide (b ≤ a ∧ a ≤ c)) := by
  unfold impl_within.f; exact le_cases a b c
theorem e_l1In (a b c : Int) : spec_l1In.f a b c = some (decide (b ≤ a ∧ a ≤ c)) := by
  unfold spec_l1In.f; exact le_cases a b c
theorem e_iIsWalker (u d : Int) : impl_IsWalker.f u d = some (decide (gk u d)) := by
  unfold impl_IsWalker.f; simp only [e_within, Option.bind_some]
  by_cases h : -1000 ≤ u ∧ u ≤ 1000 <;> by_cases h' : -100 ≤ d ∧ d ≤ 100 <;> simp [gk, h, h'] <;> omega
theorem e_meGood (u d : Int) : spec_meGood.f u d = some (decide (gk u d)) := by
  unfold spec_meGood.f; simp only [e_l1In, Option.bind_some]
  by_cases h : -1000 ≤ u ∧ u ≤ 1000 <;> by_cases h' : -100 ≤ d ∧ d ≤ 100 <;> simp [gk, h, h'] <;> omega
theorem uniq (a b q r : Int) (hb : 0 < b) (e : b * q + r = a) (h0 : 0 ≤ r) (h1 : r < b) : a / b = q ∧ a % b = r :=
  (Int.ediv_emod_unique hb).mpr ⟨by rw [← e]; exact Int.add_comm _ _, h0, h1⟩
theorem tm_bd (a b : Int) (hb : 0 < b) : b * a.tdiv b + a.tmod b = a ∧ -b < a.tmod b ∧ a.tmod b < b :=
  ⟨Int.mul_tdiv_add_tmod a b, Int.lt_tmod_of_pos a hb, Int.tmod_lt_of_pos a hb⟩
theorem floor_is (a b : Int) (hb : 0 < b) : (if a.tmod b < 0 then a.tdiv b - 1 else a.tdiv b) = a / b := by
  obtain ⟨e, h0, h1⟩ := tm_bd a b hb
  split
  · have := uniq a b (a.tdiv b - 1) (a.tmod b + b) hb (by rw [Int.mul_sub]; omega) (by omega) (by omega)
    exact this.1.symm
  · have := uniq a b (a.tdiv b) (a.tmod b) hb e (by omega) h1
    exact this.1.symm
theorem mod_is (a b : Int) (hb : 0 < b) : (a.tmod b + b).tmod b = a % b := by
  obtain ⟨e, h0, h1⟩ := tm_bd a b hb
  rw [Int.tmod_eq_emod_of_nonneg (by omega), Int.add_emod_right]
  have h := Int.add_mul_emod_self_left (a.tmod b) b (a.tdiv b)
  rw [Int.add_comm, e] at h
  exact h.symm
theorem abs_mx (a : Int) : mx a (-a) = (a.natAbs : Int) := by unfold mx; split <;> omega
theorem gcd_pos (num den : Int) (h : den ≠ 0) : 0 < (Int.gcd num den : Int) := by
  have : 0 < Int.gcd num den := Int.gcd_pos_of_ne_zero_right _ h
  omega
theorem tdiv_ex (a g : Int) (h : g ∣ a) : a.tdiv g = a / g := Int.tdiv_eq_ediv_of_dvd h
def gt (a b : Int) : Prop := 0 ≤ a ∧ a ≤ 1000000 ∧ 1 ≤ b ∧ b ≤ 1000
instance (a b : Int) : Decidable (gt a b) := by unfold gt; infer_instance
def gr (a : Int) : Prop := 1 ≤ a ∧ a ≤ 1000
instance (a : Int) : Decidable (gr a) := by unfold gr; infer_instance
def lowN (num den : Int) : Int := (if den < 0 then -num else num) / (Int.gcd num den : Int)
def lowD (num den : Int) : Int := (if den < 0 then -den else den) / (Int.gcd num den : Int)
def placeV (p s num den : Int) : Int := p * den + s * num
def wpV (p s num den : Int) : Int × Int × Bool := if gk p s ∧ gt num den then (lowN (placeV p s num den) den, lowD (placeV p s num den) den, true) else (0, 0, false)
def gapV (p s p' s' num den : Int) : Int := ((placeV p s num den - placeV p' s' num den).natAbs : Int)
def gaV (p s p' s' num den : Int) : Int × Int × Bool := if (gk p s ∧ gk p' s') ∧ gt num den then (lowN (gapV p s p' s' num den) den, lowD (gapV p s p' s' num den) den, true) else (0, 0, false)
def meetV (p s p' s' : Int) : Int × Int × Bool := if p = p' then (0, 1, true) else if s = s' then (0, 0, false) else if lowN (p' - p) (s - s') < 0 then (0, 0, false) else (lowN (p' - p) (s - s'), lowD (p' - p) (s - s'), true)
def mtV (p s p' s' : Int) : Int × Int × Bool := if gk p s ∧ gk p' s' then meetV p s p' s' else (0, 0, false)
def mpV (p s p' s' : Int) : Int × Int × Bool := if (gk p s ∧ gk p' s') ∧ (meetV p s p' s').2.2 = true then (lowN (placeV p s (meetV p s p' s').1 (meetV p s p' s').2.1) (meetV p s p' s').2.1, lowD (placeV p s (meetV p s p' s').1 (meetV p s p' s').2.1) (meetV p s p' s').2.1, true) else (0, 0, false)
def ringV (a p s p' s' : Int) : Int × Int := if s < s' then ((p - p') % a, s' - s) else ((p' - p) % a, s - s')
def ringV' (a p s p' s' : Int) : Int × Int := if s < s' then ((p - p') % a, s' - s) else ((p' - p) % a, s - s')
def rgV (a p s p' s' : Int) : Int × Int × Bool := if ((gr a ∧ gk p s) ∧ gk p' s') ∧ ¬ s = s' then (lowN a ((s - s').natAbs : Int), lowD a ((s - s').natAbs : Int), true) else (0, 0, false)
def crV (a p s p' s' t : Int) : Int × Bool := if (((gr a ∧ gk p s) ∧ gk p' s') ∧ ¬ s = s') ∧ 0 ≤ t ∧ t ≤ 1000 then (if t * (ringV a p s p' s').2 < (ringV a p s p' s').1 then 0 else (t * (ringV a p s p' s').2 - (ringV a p s p' s').1) / a + 1, true) else (0, false)
theorem div_abs (a g : Int) (hg : 1 ≤ g) (B : Int) (h : -B ≤ a ∧ a ≤ B) : -B ≤ a / g ∧ a / g ≤ B := by
  constructor
  · have : -B ≤ a / g ↔ -B * g ≤ a := Int.le_ediv_iff_mul_le (by omega)
    refine this.mpr ?_
    have hB : 0 ≤ B := by omega
    have := Int.mul_le_mul_of_nonneg_left hg hB
    rw [Int.neg_mul]; omega
  · rcases Int.lt_or_le a 0 with h' | h'
    · have : a / g < 0 ↔ a < 0 * g := Int.ediv_lt_iff_lt_mul (by omega)
      have := this.mpr (by omega)
      omega
    · have := Int.ediv_le_self g h'
      omega
theorem low_bd (num den B : Int) (hd : den ≠ 0) (h1 : -B ≤ num ∧ num ≤ B) (h2 : -B ≤ den ∧ den ≤ B) : (-B ≤ lowN num den ∧ lowN num den ≤ B) ∧ (1 ≤ lowD num den ∧ lowD num den ≤ B) := by
  have hg := gcd_pos num den hd
  refine ⟨?_, ?_⟩
  · unfold lowN; exact div_abs _ _ (by omega) B (by split <;> omega)
  · have h := div_abs (if den < 0 then -den else den) (Int.gcd num den : Int) (by omega) B (by split <;> omega)
    unfold lowD
    refine ⟨?_, h.2⟩
    have hd' : (Int.gcd num den : Int) ∣ (if den < 0 then -den else den) := by
      split
      · exact Int.dvd_neg.mpr (Int.gcd_dvd_right ..)
      · exact Int.gcd_dvd_right ..
    have hp : 0 < (if den < 0 then -den else den) := by split <;> omega
    have := Int.ediv_pos_of_pos_of_dvd hp (by omega) hd'
    omega
theorem lowN_neg (num den : Int) (hd : den ≠ 0) : lowN num den < 0 ↔ (if den < 0 then -num else num) < 0 := by
  have hg := gcd_pos num den hd
  unfold lowN
  have : (if den < 0 then -num else num) / (Int.gcd num den : Int) < 0 ↔ (if den < 0 then -num else num) < 0 * (Int.gcd num den : Int) := Int.ediv_lt_iff_lt_mul (by omega)
  rw [Int.zero_mul] at this
  exact this
theorem ediv_min (a g : Int) (h : g ∣ a) (hg : g ≠ 0) : -a / g = -(a / g) := Int.neg_ediv_of_dvd h
theorem abs_mul (a b A B : Int) (h1 : -A ≤ a ∧ a ≤ A) (h2 : 0 ≤ b ∧ b ≤ B) : -(A * B) ≤ a * b ∧ a * b ≤ A * B := by
  have hA : 0 ≤ A := by omega
  have t : A * b ≤ A * B := Int.mul_le_mul_of_nonneg_left h2.2 hA
  have t1 : a * b ≤ A * b := Int.mul_le_mul_of_nonneg_right h1.2 h2.1
  have t2 : -A * b ≤ a * b := Int.mul_le_mul_of_nonneg_right h1.1 h2.1
  rw [Int.neg_mul] at t2
  omega
theorem rdn (l : List Int) (i : Nat) : rd l (i : Int) = l.getD i 0 := by simp [rd]
theorem drop_cons (l : List Int) (i : Nat) (h : i < l.length) : l.drop i = l.getD i 0 :: l.drop (i + 1) := by
  rw [List.drop_eq_getElem_cons h]; simp [List.getD_eq_getElem?_getD, h]
theorem getD_mem (l : List Int) (i : Nat) (h : i < l.length) : l.getD i 0 ∈ l := by
  simp [List.getD_eq_getElem?_getD, h]
theorem round1 {k n : Nat} (h : n < k) : ∃ m, k = m + 1 ∧ n ≤ m := ⟨k - 1, by omega, by omega⟩
def gs (up : Int) (s : List Int) : Prop := (1 ≤ up ∧ up ≤ 1000) ∧ (1 ≤ (s.length : Int) ∧ (s.length : Int) ≤ 12) ∧ ∀ x ∈ s, 0 ≤ x ∧ x ≤ 1000
instance (up : Int) (s : List Int) : Decidable (gs up s) := by unfold gs; infer_instance
/-- The slip of the night behind day j + 1. -/
def sl (s : List Int) (j : Nat) : Int := s.getD (j % s.length) 0
theorem sl_bd (up : Int) (s : List Int) (g : gs up s) (j : Nat) : 0 ≤ sl s j ∧ sl s j ≤ 1000 := by
  obtain ⟨_, h, ha⟩ := g
  exact ha _ (getD_mem s _ (Nat.mod_lt _ (by omega)))
theorem tmod_nat (j n : Nat) : Int.tmod (j : Int) (n : Int) = ((j % n : Nat) : Int) := by
  rw [Int.tmod_eq_emod_of_nonneg (by omega), Int.natCast_emod]
/-- How far it comes at most: rounds left, day, height in the morning, most so far. -/
def gsL (up : Int) (s : List Int) : Nat → Nat → Int → Int → Int
  | 0, _, _, most => most
  | n + 1, j, m, most => gsL up s n (j + 1) (max 0 (m + up - sl s j)) (max most (m + up))
def gwsV (up : Int) (s : List Int) (days : Int) : Int × Bool := if gs up s ∧ gw days then (gsL up s days.toNat 0 0 0, true) else (0, false)
/-- How high it is in the morning before day j + 1, if there is no top. -/
def mor (up : Int) (s : List Int) : Nat → Int
  | 0 => 0
  | j + 1 => max 0 (mor up s j + up - sl s j)
theorem mor_bd (up : Int) (s : List Int) (g : gs up s) : ∀ j : Nat, 0 ≤ mor up s j ∧ mor up s j ≤ j * 1000 := by
  intro j
  induction j with
  | zero => simp [mor]
  | succ j ih =>
    have hs := sl_bd up s g j
    have g1 := g.1
    simp only [mor]
    omega
theorem sl_per (s : List Int) (j : Nat) : sl s (j + s.length) = sl s j := by unfold sl; rw [Nat.add_mod_right]
theorem mor_step (up : Int) (s : List Int) (a : Nat) (h : mor up s (a + s.length) ≤ mor up s a) : ∀ t, mor up s (a + t + s.length) ≤ mor up s (a + t) := by
  intro t
  induction t with
  | zero => exact h
  | succ t ih =>
    have e : a + (t + 1) + s.length = (a + t + s.length) + 1 := by omega
    rw [e, show a + (t + 1) = (a + t) + 1 by omega]
    simp only [mor]
    rw [sl_per s (a + t)]
    omega
theorem mor_never (up w : Int) (s : List Int) (hs : 1 ≤ s.length) (a : Nat) (h : mor up s (a + s.length) ≤ mor up s a) (hb : ∀ i, i < a + s.length → mor up s i + up < w) : ∀ j, mor up s j + up < w := by
  intro j
  induction j using Nat.strongRecOn with
  | ind j ih =>
    rcases Nat.lt_or_ge j (a + s.length) with h1 | h1
    · exact hb j h1
    · have := mor_step up s a h (j - s.length - a)
      rw [show a + (j - s.length - a) + s.length = j by omega, show a + (j - s.length - a) = j - s.length by omega] at this
      have := ih (j - s.length) (by omega)
      omega
/-- What the day of the top is: the first one, or that there is none. -/
def DS (up : Int) (s : List Int) (w : Int) (r : Int × Bool) : Prop :=
  (∃ j : Nat, r = ((j : Int) + 1, true) ∧ mor up s j + up ≥ w ∧ ∀ i, i < j → mor up s i + up < w) ∨ (r = (0, false) ∧ ∀ j, mor up s j + up < w)
theorem DS_one (up : Int) (s : List Int) (w : Int) (r r' : Int × Bool) (h : DS up s w r) (h' : DS up s w r') : r = r' := by
  rcases h with ⟨j, e, a, b⟩ | ⟨e, a⟩ <;> rcases h' with ⟨j', e', a', b'⟩ | ⟨e', a'⟩
  · rcases Nat.lt_trichotomy j j' with h | h | h
    · have := b' j h; omega
    · rw [e, e', h]
    · have := b j' h; omega
  · have := a' j; omega
  · have := a j'; omega
  · rw [e, e']
theorem e_eqWalker (a b : Int) : laws_eqWalker.f a b a b = some true := by
  unfold laws_eqWalker.f; simp
theorem e_eqWalkerS_l0 (l : List S37) (hl : (l.length : Int) ≤ 9000000000000000000) : ∀ (n i k : Nat), i + n = l.length → n < k → laws_eqWalkerS.l0 k l l (i : Int) = some true := by
  intro n
  induction n with
  | zero =>
    intro i k hi hk
    obtain ⟨k, rfl, hk⟩ := round1 hk
    simp only [laws_eqWalkerS.l0]; rw [if_neg (by omega)]
  | succ n ih =>
    intro i k hi hk
    obtain ⟨k, rfl, hk⟩ := round1 hk
    simp only [laws_eqWalkerS.l0, e_eqWalker, Option.bind_some]
    rw [if_pos (by omega), if_pos (by omega), if_pos (by omega), if_true, w64 _ (by omega) (by omega), show ((i : Int) + 1) = ((i + 1 : Nat) : Int) by omega]
    exact ih (i + 1) k (by omega) (by omega)
theorem e_eqWalkerS (k : Nat) (l : List S37) (hl : (l.length : Int) ≤ 9000000000000000000) (hk : l.length < k) : laws_eqWalkerS.f k l l = some true := by
  unfold laws_eqWalkerS.f; rw [if_pos rfl]; exact e_eqWalkerS_l0 l hl l.length 0 k (by omega) hk
def ws (l : List S37) : Prop := (1 ≤ (l.length : Int) ∧ (l.length : Int) ≤ 8) ∧ ∀ x ∈ l, gk x.f0 x.f1
instance (l : List S37) : Decidable (ws l) := by unfold ws; infer_instance
theorem drop_consS (l : List S37) (i : Nat) (h : i < l.length) : l.drop i = l.getD i z37 :: l.drop (i + 1) := by
  rw [List.drop_eq_getElem_cons h]; simp [List.getD_eq_getElem?_getD, h]
theorem rdS (l : List S37) (i : Nat) : rd_T37 l (i : Int) = l.getD i z37 := by unfold rd_T37; simp
theorem e_meAll_l0 (l : List S37) (hl : (l.length : Int) ≤ 9000000000000000000) : ∀ (n i k : Nat), i + n = l.length → n < k → spec_meAll.l0 k l (l.length : Int) (i : Int) = some (decide (∀ x ∈ l.drop i, gk x.f0 x.f1)) := by
  intro n
  induction n with
  | zero =>
    intro i k hi hk
    obtain ⟨k, rfl, hk⟩ := round1 hk
    simp only [spec_meAll.l0]
    rw [if_neg (by omega), List.drop_eq_nil_of_le (by omega)]; simp
  | succ n ih =>
    intro i k hi' hk
    obtain ⟨k, rfl, hk⟩ := round1 hk
    simp only [spec_meAll.l0]
    rw [if_pos (by omega), if_pos (by omega), if_pos (by omega), rdS, e_meGood, drop_consS l i (by omega), w64 _ (by omega) (by omega)]
    have e : ((i : Int) + 1) = ((i + 1 : Nat) : Int) := by omega
    rw [e, ih (i + 1) k (by omega) (by omega)]
    simp only [Option.bind_some, decide_eq_true_eq, List.forall_mem_cons]
    by_cases h : gk (l.getD i z37).f0 (l.getD i z37).f1
    · rw [if_pos h]; congr 1; exact decide_eq_decide.mpr ⟨fun z => ⟨h, z⟩, fun z => z.2⟩
    · rw [if_neg h]; congr 1; symm; rw [decide_eq_false_iff_not]; exact fun z => h z.1
theorem e_meAll (k : Nat) (l : List S37) (hl : (l.length : Int) ≤ 9000000000000000000) (hk : l.length < k) : spec_meAll.f k l = some (decide (ws l)) := by
  unfold spec_meAll.f ws
  have := e_meAll_l0 l hl l.length 0 k (by omega) hk
  rw [e_l1In]; simp only [Option.bind_some, decide_eq_true_eq]
  by_cases h : 1 ≤ (l.length : Int) ∧ (l.length : Int) ≤ 8
  · rw [if_pos h]; simp only [h, true_and, and_self]; exact this
  · rw [if_neg h]; simp only [h, false_and, decide_false]
theorem e_AreWalkers (l : List S37) (hl : (l.length : Int) ≤ 9000000000000000000) : impl_AreWalkers.f l = some (decide (ws l)) := by
  unfold impl_AreWalkers.f ws; rw [if_pos hl]
  congr 1
  rw [Bool.eq_iff_iff]
  simp only [Bool.and_eq_true, decide_eq_true_eq, List.all_eq_true, impl_AreWalkers.q, gk]
  exact decide_eq_true_iff.symm
def gtr (lap p s : Int) : Prop := (2 ≤ lap ∧ lap ≤ 1000) ∧ (0 ≤ p ∧ p ≤ lap - 1) ∧ 1 ≤ s ∧ s ≤ 100
instance (lap p s : Int) : Decidable (gtr lap p s) := by unfold gtr; infer_instance
def grt (t : Int) : Prop := 0 ≤ t ∧ t ≤ 1000000
instance (t : Int) : Decidable (grt t) := by unfold grt; infer_instance
def glp (t : Int) : Prop := 1 ≤ t ∧ t ≤ 100
instance (t : Int) : Decidable (glp t) := by unfold glp; infer_instance
theorem evs {α : Type} {g f : Nat → Option α} {r : α} (K : Nat) (h : ∀ k, K ≤ k → g (k + 1) = f k) (k : Ev f r) : Ev g r := by
  obtain ⟨K', k⟩ := k
  refine ⟨max K K' + 1, fun n hn => ?_⟩
  obtain ⟨m, rfl⟩ : ∃ m, n = m + 1 := ⟨n - 1, by omega⟩
  rw [h m (by omega)]
  exact k m (by omega)
theorem low_neg (a b : Int) (hb : b ≠ 0) : lowN (-a) (-b) = lowN a b ∧ lowD (-a) (-b) = lowD a b := by
  have e : Int.gcd (-a) (-b) = Int.gcd a b := by simp [Int.gcd]
  unfold lowN lowD
  rw [e]
  by_cases h : b < 0
  · rw [if_pos h, if_pos h, if_neg (by omega), if_neg (by omega)]; exact ⟨rfl, rfl⟩
  · rw [if_neg h, if_neg h, if_pos (by omega), if_pos (by omega), Int.neg_neg, Int.neg_neg]; exact ⟨rfl, rfl⟩
theorem meet_sym (p s p' s' : Int) : meetV p s p' s' = meetV p' s' p s := by
  unfold meetV
  by_cases h : p = p'
  · rw [if_pos h, if_pos h.symm]
  · by_cases h2 : s = s'
    · rw [if_neg h, if_neg (fun z : p' = p => h z.symm), if_pos h2, if_pos h2.symm]
    · have q := low_neg (p' - p) (s - s') (by omega)
      rw [show -(p' - p) = p - p' by omega, show -(s - s') = s' - s by omega] at q
      rw [if_neg h, if_neg (fun z : p' = p => h z.symm), if_neg h2, if_neg (fun z : s' = s => h2 z.symm), q.1, q.2]
theorem low_cross (a b : Int) (hb : b ≠ 0) : lowN a b * b = lowD a b * a := by
  have hg := gcd_pos a b hb
  obtain ⟨u, hu⟩ : (Int.gcd a b : Int) ∣ a := Int.gcd_dvd_left ..
  obtain ⟨v, hv⟩ : (Int.gcd a b : Int) ∣ b := Int.gcd_dvd_right ..
  unfold lowN lowD
  generalize (Int.gcd a b : Int) = g at *
  subst hu hv
  by_cases h : g * v < 0
  · rw [if_pos h, if_pos h, show -(g * u) = g * (-u) by rw [Int.mul_neg], show -(g * v) = g * (-v) by rw [Int.mul_neg], Int.mul_ediv_cancel_left _ (by omega), Int.mul_ediv_cancel_left _ (by omega)]
    rw [Int.neg_mul, Int.neg_mul, Int.mul_left_comm u g v, Int.mul_left_comm v g u, Int.mul_comm u v]
  · rw [if_neg h, if_neg h, Int.mul_ediv_cancel_left _ (by omega), Int.mul_ediv_cancel_left _ (by omega)]
    rw [Int.mul_left_comm u g v, Int.mul_left_comm v g u, Int.mul_comm u v]
/-- Where they meet: the time times the difference of speeds is the gap. -/
theorem meet_cross (p s p' s' : Int) (h : (meetV p s p' s').2.2 = true) (hp : p ≠ p') : (meetV p s p' s').1 * (s - s') = (meetV p s p' s').2.1 * (p' - p) ∧ s ≠ s' := by
  unfold meetV at h ⊢
  rw [if_neg hp] at h ⊢
  by_cases h2 : s = s'
  · rw [if_pos h2] at h; simp at h
  · rw [if_neg h2] at h ⊢
    by_cases h3 : lowN (p' - p) (s - s') < 0
    · rw [if_pos h3] at h; simp at h
    · rw [if_neg h3]
      exact ⟨low_cross _ _ (by omega), h2⟩
/-- One that is faster and behind is met. -/
theorem meet_ok (p s p' s' : Int) (hp : p < p') (hs : s > s') : (meetV p s p' s').2.2 = true := by
  unfold meetV
  have q := lowN_neg (p' - p) (s - s') (by omega)
  rw [if_neg (by omega), if_neg (by omega), if_neg]
  intro z
  have := q.mp z
  rw [if_neg (by omega)] at this
  omega
theorem mul_pos' {a b : Int} (ha : 0 < a) (hb : 0 < b) : 0 < a * b := Int.mul_pos ha hb
/-- a/b ≤ x/y and x/y ≤ u/v. -/
theorem frac_trans (a b x y u v : Int) (hb : 0 < b) (hy : 0 < y) (hv : 0 < v) (h1 : a * y ≤ x * b) (h2 : x * v ≤ u * y) : a * v ≤ u * b := by
  have e1 : a * y * v ≤ x * b * v := Int.mul_le_mul_of_nonneg_right h1 (by omega)
  have e2 : x * v * b ≤ u * y * b := Int.mul_le_mul_of_nonneg_right h2 (by omega)
  have e3 : (a * v) * y ≤ (u * b) * y := by
    rw [show (a * v) * y = a * y * v by rw [Int.mul_right_comm], show (u * b) * y = u * y * b by rw [Int.mul_right_comm]]
    rw [show x * b * v = x * v * b by rw [Int.mul_right_comm]] at e1
    omega
  exact Int.le_of_mul_le_mul_right e3 hy
theorem e_markWalkerS_l0 : ∀ (n i k : Nat) (l : List S37) (c : Int), l.length ≤ 1048576 → i + n = l.length → 0 ≤ c → c ≤ 1 + 2 * i → n < k → ∃ m, laws_markWalkerS.l0 k l c (i : Int) = some (c + 2 * n, m) := by
  intro n; induction n with
  | zero =>
    intro i k l c hl hi hc hc2 hk
    obtain ⟨k, rfl⟩ : ∃ m, k = m + 1 := ⟨k - 1, by omega⟩
    simp only [laws_markWalkerS.l0]
    rw [if_neg (by omega)]
    exact ⟨l, by simp⟩
  | succ n ih =>
    intro i k l c hl hi hc hc2 hk
    obtain ⟨k, rfl⟩ : ∃ m, k = m + 1 := ⟨k - 1, by omega⟩
    simp only [laws_markWalkerS.l0]
    rw [if_pos (by omega), if_pos (by omega)]
    simp only [Option.bind_some]
    rw [w64 (c + 1) (by omega) (by omega), w64 (c + 1 + 1) (by omega) (by omega), w64 ((i : Int) + 1) (by omega) (by omega), show ((i : Int) + 1) = ((i + 1 : Nat) : Int) by omega]
    obtain ⟨m, hm⟩ := ih (i + 1) k ((l.set ((i : Int)).toNat ⟨c, (rd_T37 l (i : Int)).f1⟩).set ((i : Int)).toNat ⟨(rd_T37 (l.set ((i : Int)).toNat ⟨c, (rd_T37 l (i : Int)).f1⟩) (i : Int)).f0, c + 1⟩) (c + 1 + 1) (by rw [List.length_set, List.length_set]; exact hl) (by rw [List.length_set, List.length_set]; omega) (by omega) (by omega) (by omega)
    exact ⟨m, by rw [hm]; congr 2; omega⟩
theorem e_markWalkerS (k : Nat) (l : List S37) (hl : l.length ≤ 1048576) (hk : l.length < k) : ∃ m, laws_markWalkerS.f k l 1 = some (1 + 2 * (l.length : Int), m) := by
  unfold laws_markWalkerS.f
  exact e_markWalkerS_l0 l.length 0 k l 1 hl (by omega) (by omega) (by omega) hk

theorem e_l1Split_l0 (L : List UInt8) (hL : L.length ≤ 100000000) (c : UInt8) : ∀ (n i fr k : Nat) (done : List ByteArray), i + n = L.length → fr ≤ i → n < k → done.length ≤ i →
    spec_l1Split.l0 k (bs L) (c.toNat : Int) done (fr : Int) (i : Int) = some (done ++ (spla c ((L.drop fr).take (i - fr)) (L.drop i)).map bs) := by
  intro n
  induction n with
  | zero =>
    intro i fr k done hi hf hk hd
    obtain ⟨k, rfl⟩ : ∃ q, k = q + 1 := ⟨k - 1, by omega⟩
    have hdr : L.drop i = [] := List.drop_eq_nil_of_le (by omega)
    unfold spec_l1Split.l0
    rw [bs_size, if_neg (by omega), if_pos (by omega), if_pos (by omega), if_pos (by omega), hdr, bs_extract]
    simp only [spla, List.map_cons, List.map_nil, Int.toNat_natCast]
    rw [show L.length = i by omega]
  | succ n ih =>
    intro i fr k done hi hf hk hd
    obtain ⟨k, rfl⟩ : ∃ q, k = q + 1 := ⟨k - 1, by omega⟩
    have hil : i < L.length := by omega
    have hb := bt_bs L (i : Int) (by simpa using hil)
    simp only [Int.toNat_natCast] at hb
    have hdr : L.drop i = L[i] :: L.drop (i + 1) := List.drop_eq_getElem_cons hil
    have hw : wrap64 ((i : Int) + 1) = ((i + 1 : Nat) : Int) := by unfold wrap64; omega
    unfold spec_l1Split.l0
    rw [bs_size, if_pos (by omega), if_pos (by omega), hb, hw, hdr]
    by_cases e : L[i] = c
    · rw [if_pos (by rw [e]), if_pos (by omega), if_pos (by omega), if_pos (by omega), if_pos (by omega), bs_extract, ih (i + 1) (i + 1) k _ (by omega) (by omega) (by omega) (by simp; omega)]
      simp only [spla, if_pos e, Int.toNat_natCast, Nat.sub_self, List.take_zero, List.map_cons, List.append_assoc, List.cons_append, List.nil_append]
    · rw [if_neg (by intro z; exact e (UInt8.toNat_inj.1 (by omega))), ih (i + 1) fr k _ (by omega) (by omega) (by omega) (by omega)]
      have ht : (L.drop fr).take (i + 1 - fr) = (L.drop fr).take (i - fr) ++ [L[i]] := by
        rw [show i + 1 - fr = (i - fr) + 1 by omega, List.take_succ_eq_append_getElem (by rw [List.length_drop]; omega)]
        congr 2
        rw [List.getElem_drop]
        congr 1
        omega
      rw [ht]
      simp only [spla, if_neg e]
theorem e_l1Split (k : Nat) (L : List UInt8) (c : UInt8) (hL : L.length ≤ 100000000) (hk : L.length < k) : spec_l1Split.f k (bs L) (c.toNat : Int) = some ((spl c L).map bs) := by
  have := e_l1Split_l0 L hL c L.length 0 0 k [] (by omega) (by omega) hk (by simp)
  simpa [spec_l1Split.f, spl] using this
def dgs (p : List UInt8) : Prop := ∀ x ∈ p, 48 ≤ x.toNat ∧ x.toNat ≤ 57
instance (p : List UInt8) : Decidable (dgs p) := by unfold dgs; infer_instance
def dstep (a : Nat) (x : UInt8) : Nat := 10 * a + (x.toNat - 48)
def numL (acc : Nat) (l : List UInt8) : Nat := l.foldl dstep acc
theorem numL_nil (acc : Nat) : numL acc [] = acc := rfl
theorem numL_cons (acc : Nat) (x : UInt8) (r : List UInt8) : numL acc (x :: r) = numL (10 * acc + (x.toNat - 48)) r := by
  unfold numL
  rw [List.foldl_cons]
  unfold dstep
  exact Eq.refl _
theorem numL_snoc (c : UInt8) (q : List UInt8) (acc : Nat) : numL acc (q ++ [c]) = 10 * numL acc q + (c.toNat - 48) := by
  unfold numL
  rw [List.foldl_append, List.foldl_cons, List.foldl_nil]
  exact dstep.eq_1 _ _
theorem numL_dec (u : Nat) : numL 0 (Lib.decDigits u) = u := by
  induction u using Nat.strongRecOn with
  | _ u ih =>
    rw [Lib.decDigits]
    split
    · rename_i h
      have := ofn u h
      rw [numL_cons, numL_nil]
      omega
    · rename_i h
      have := ofn (u % 10) (by omega)
      rw [numL_snoc, ih (u / 10) (by omega)]
      omega
theorem dec_num (p : List UInt8) : ∀ (n : Nat), p.length = n + 1 → dgs p → (p.head? ≠ some 48 ∨ n = 0) → Lib.decDigits (numL 0 p) = p := by
  intro n
  induction n generalizing p with
  | zero =>
    intro h hd _
    match p, h with
    | [c], _ =>
      have hc := hd c (by simp)
      rw [numL_cons, numL_nil]
      rw [Lib.decDigits, dif_pos (by omega)]
      congr 1
      apply UInt8.toNat_inj.1
      rw [ofn _ (by omega)]
      omega
  | succ n ih =>
    intro h hd hh
    have hh : p.head? ≠ some 48 := hh.resolve_right (by omega)
    obtain ⟨q, c, rfl⟩ : ∃ q c, p = q ++ [c] := ⟨p.dropLast, p.getLast (by intro e; subst e; simp at h), (List.dropLast_concat_getLast _).symm⟩
    have hq : q.length = n + 1 := by simp at h; omega
    have hc := hd c (by simp)
    have hqh : q.head? ≠ some 48 := by
      cases q with
      | nil => simp at hq
      | cons a b => simpa using hh
    have i := ih q hq (fun x hx => hd x (by simp [hx])) (.inl hqh)
    rw [numL_snoc]
    have hz : numL 0 q ≠ 0 := by
      intro e
      rw [e, Lib.decDigits_one (by omega)] at i
      rw [← i] at hqh
      exact hqh rfl
    rw [Lib.decDigits, dif_neg (by omega)]
    have e1 : (10 * numL 0 q + (c.toNat - 48)) / 10 = numL 0 q := by omega
    have e2 : (10 * numL 0 q + (c.toNat - 48)) % 10 = c.toNat - 48 := by omega
    rw [e1, e2, i]
    congr 2
    apply UInt8.toNat_inj.1
    rw [ofn _ (by omega)]
    omega
theorem dec_len : ∀ (k u : Nat), u < 10 ^ (k + 1) → (Lib.decDigits u).length ≤ k + 1
  | k, u, h => by
    rw [Lib.decDigits]
    split
    · simp
    · rename_i hu
      cases k with
      | zero => simp at h; omega
      | succ k =>
        have := dec_len k (u / 10) (by rw [Nat.pow_succ] at h; omega)
        simp only [List.length_append, List.length_cons, List.length_nil]
        omega
theorem dec_pos (u : Nat) : 1 ≤ (Lib.decDigits u).length := by
  have := dig_ne u
  cases h : Lib.decDigits u with
  | nil => exact absurd h this
  | cons a b => simp
theorem dec_long : ∀ (n v : Nat), 10 ^ n ≤ v → n + 1 ≤ (Lib.decDigits v).length
  | 0, v, _ => dec_pos v
  | n + 1, v, hv => by
    rw [Nat.pow_succ] at hv
    have h1 : 1 ≤ 10 ^ n := Nat.one_le_pow _ _ (by omega)
    rw [Lib.decDigits, dif_neg (by omega)]
    have := dec_long n (v / 10) (by omega)
    simp only [List.length_append, List.length_cons, List.length_nil]
    omega
theorem dec_head (u : Nat) (h : 10 ≤ u) : (Lib.decDigits u).head? ≠ some 48 := by
  induction u using Nat.strongRecOn with
  | _ u ih =>
    rw [Lib.decDigits, dif_neg (by omega)]
    have hne := dig_ne (u / 10)
    cases hd : Lib.decDigits (u / 10) with
    | nil => exact absurd hd hne
    | cons a b =>
      by_cases h2 : 10 ≤ u / 10
      · have := ih (u / 10) (by omega) h2
        rw [hd] at this
        simpa using this
      · rw [Lib.decDigits_one (by omega)] at hd
        have e : a = UInt8.ofNat (48 + u / 10) := by have := (List.cons.inj hd).1; exact this.symm
        intro z
        simp only [List.cons_append, List.head?_cons, Option.some.injEq] at z
        rw [e] at z
        have := ofn (u / 10) (by omega)
        rw [z] at this
        have h48 : (48 : UInt8).toNat = 48 := rfl
        omega
theorem e_l1Read_l0 (L : List UInt8) (hL : L.length ≤ 6) : ∀ (n i k acc : Nat), i + n = L.length → n < k → acc < 10 ^ i → spec_l1Read.l0 k (bs L) (acc : Int) (i : Int) = some (if dgs (L.drop i) then (numL acc (L.drop i) : Int) else -1) := by
  intro n
  induction n with
  | zero =>
    intro i k acc hi hk ha
    obtain ⟨k, rfl⟩ : ∃ q, k = q + 1 := ⟨k - 1, by omega⟩
    have hdr : L.drop i = [] := List.drop_eq_nil_of_le (by omega)
    unfold spec_l1Read.l0
    rw [bs_size, if_neg (by omega), hdr, if_pos (by intro x hx; simp at hx)]
    rfl
  | succ n ih =>
    intro i k acc hi hk ha
    obtain ⟨k, rfl⟩ : ∃ q, k = q + 1 := ⟨k - 1, by omega⟩
    have hil : i < L.length := by omega
    have hb := bt_bs L (i : Int) (by simpa using hil)
    simp only [Int.toNat_natCast] at hb
    have hdr : L.drop i = L[i] :: L.drop (i + 1) := List.drop_eq_getElem_cons hil
    have hw : wrap64 ((i : Int) + 1) = ((i + 1 : Nat) : Int) := by unfold wrap64; omega
    have ha5 : acc < 100000 := Nat.lt_of_lt_of_le ha (Nat.pow_le_pow_right (n := 10) (by decide) (show i ≤ 5 by omega))
    unfold spec_l1Read.l0
    rw [bs_size, if_pos (by omega), if_pos (by omega), hb, hw, hdr]
    by_cases c1 : (L[i].toNat : Int) < 48
    · rw [if_pos c1, if_neg (by intro z; have := z L[i] List.mem_cons_self; omega)]
    · by_cases c2 : (L[i].toNat : Int) > 57
      · rw [if_neg c1, if_pos c2, if_neg (by intro z; have := z L[i] List.mem_cons_self; omega)]
      · have e : wrap64 (wrap64 (10 * (acc : Int)) + ((L[i].toNat : Int) - 48) % 256) = ((10 * acc + (L[i].toNat - 48) : Nat) : Int) := by
          clear ih hdr hb hw ha
          generalize L[i].toNat = d at *
          rw [show wrap64 (10 * (acc : Int)) = 10 * (acc : Int) by unfold wrap64; omega, show ((d : Int) - 48) % 256 = (d : Int) - 48 by omega]
          unfold wrap64; omega
        have hpw : 10 * acc + (L[i].toNat - 48) < 10 ^ (i + 1) := by
          rw [Nat.pow_succ]
          generalize 10 ^ i = t at ha
          clear ih hdr hb hw
          omega
        rw [if_neg c1, if_neg c2, e, ih (i + 1) k _ (by omega) (by omega) hpw]
        have hiff : dgs (L[i] :: L.drop (i + 1)) ↔ dgs (L.drop (i + 1)) := ⟨fun z x hx => z x (List.mem_cons_of_mem _ hx), fun z x hx => by rcases List.mem_cons.1 hx with rfl | hx; exact ⟨by omega, by omega⟩; exact z x hx⟩
        simp only [hiff, numL_cons]
/-- The number read, or -1. -/
theorem e_l1Read (k : Nat) (p : List UInt8) (hk : 20 < k) : (∃ u : Nat, u ≤ 999999 ∧ p = Lib.decDigits u ∧ spec_l1Read.f k (bs p) = some (u : Int)) ∨ ((∀ u : Nat, u ≤ 999999 → p ≠ Lib.decDigits u) ∧ spec_l1Read.f k (bs p) = some (-1)) := by
  obtain ⟨k, rfl⟩ : ∃ q, k = q + 1 := ⟨k - 1, by omega⟩
  have hsmall : ∀ u : Nat, u ≤ 999999 → (Lib.decDigits u).length ≤ 6 := fun u hu => dec_len 5 u (by omega)
  have hin : spec_l1In.f (p.length : Int) 1 6 = some (decide (1 ≤ p.length ∧ p.length ≤ 6)) := by
    unfold spec_l1In.f
    by_cases c1 : 1 ≤ p.length
    · rw [if_pos (by omega)]
      congr 1
      rw [decide_eq_decide]
      omega
    · rw [if_neg (by omega), decide_eq_false (by omega)]
  have key1 : ¬ (1 ≤ p.length ∧ p.length ≤ 6) → spec_l1Read.f (k + 1) (bs p) = some (-1) := by
    intro h
    unfold spec_l1Read.f
    rw [bs_size, hin, decide_eq_false h]
    rfl
  have hl0 : p.length ≤ 6 → spec_l1Read.l0 k (bs p) 0 0 = some (if dgs p then (numL 0 p : Int) else -1) := by
    intro h
    have hl := e_l1Read_l0 p h p.length 0 k 0 (by omega) (by omega) (by simp)
    rw [List.drop_zero] at hl
    exact hl
  have key2 : (h : 1 ≤ p.length ∧ p.length ≤ 6) → spec_l1Read.f (k + 1) (bs p) = if p.head? = some 48 ∧ 1 < p.length then some (-1) else some (if dgs p then (numL 0 p : Int) else -1) := by
    intro h
    have hb : bt (bs p) 0 = ((p[0]'(by omega)).toNat : Int) := bt_bs p 0 (by show 0 < p.length; omega)
    have hh : p.head? = some (p[0]'(by omega)) := by rw [List.head?_eq_getElem?, List.getElem?_eq_getElem (by omega)]
    have hj : ∀ b : Bool, spec_l1Read.j0 (k + 1) (bs p) b = if b = true then some (-1) else some (if dgs p then (numL 0 p : Int) else -1) := by
      intro b
      simp only [spec_l1Read.j0, hl0 h.2]
    have h48 : (48 : UInt8).toNat = 48 := rfl
    unfold spec_l1Read.f
    rw [bs_size, hin, decide_eq_true h]
    simp only [Option.bind_some, if_true]
    rw [if_pos (by omega), hb, hj, hj, hh]
    by_cases q : p.head? = some 48 ∧ 1 < p.length
    · have z : p[0]'(by omega) = 48 := by rw [hh] at q; exact Option.some.inj q.1
      rw [← hh, if_pos q, if_pos (by rw [z]; rfl), if_pos (decide_eq_true (by omega))]
    · rw [← hh, if_neg q]
      by_cases z : p[0]'(by omega) = 48
      · have y : ¬ 1 < p.length := fun y => q ⟨by rw [hh, z], y⟩
        rw [if_pos (by rw [z]; rfl), if_neg (by rw [decide_eq_false (by omega)]; simp)]
      · have z2 : ¬ ((p[0]'(by omega)).toNat : Int) = 48 := by intro w; apply z; apply UInt8.toNat_inj.1; omega
        rw [if_neg z2, if_neg (by simp)]
  by_cases ex : ∃ u : Nat, u ≤ 999999 ∧ p = Lib.decDigits u
  · obtain ⟨u, hu, rfl⟩ := ex
    refine .inl ⟨u, hu, rfl, ?_⟩
    rw [key2 ⟨dec_pos u, hsmall u hu⟩]
    have hz : ¬ ((Lib.decDigits u).head? = some 48 ∧ 1 < (Lib.decDigits u).length) := by
      intro ⟨z1, z2⟩
      by_cases h10 : 10 ≤ u
      · exact dec_head u h10 z1
      · rw [Lib.decDigits_one (by omega)] at z2
        simp at z2
    rw [if_neg hz, if_pos (show dgs (Lib.decDigits u) from dig_le u), numL_dec]
  · refine .inr ⟨fun u hu e => ex ⟨u, hu, e⟩, ?_⟩
    by_cases hl : 1 ≤ p.length ∧ p.length ≤ 6
    · rw [key2 hl]
      split
      · rfl
      · rename_i hz
        split
        · rename_i hd
          exfalso
          have e := dec_num p (p.length - 1) (by omega) hd (by
            by_cases h1 : p.length - 1 = 0
            · exact .inr h1
            · exact .inl (fun q => hz ⟨q, by omega⟩))
          refine ex ⟨numL 0 p, ?_, e.symm⟩
          apply Classical.byContradiction
          intro hb
          have := dec_long 6 (numL 0 p) (by omega)
          rw [e] at this
          omega
        · rfl
    · exact key1 hl
/-- A small number's numeral, or none. -/
theorem e_meRead (k : Nat) (p : List UInt8) (hk : 22 < k) (hp : p.length ≤ 100000000) : (∃ n : Int, (-999999 ≤ n ∧ n ≤ 999999) ∧ p = Lib.itoa n ∧ spec_meRead.f k (bs p) = some (n, true)) ∨ ((∀ n : Int, (-999999 ≤ n ∧ n ≤ 999999) → p ≠ Lib.itoa n) ∧ ∃ t, spec_meRead.f k (bs p) = some (t, false)) := by
  obtain ⟨k, rfl⟩ : ∃ q, k = q + 1 := ⟨k - 1, by omega⟩
  have h45 : (45 : UInt8).toNat = 45 := rfl
  by_cases c : 1 < p.length ∧ p.head? = some 45
  · obtain ⟨c1, c2⟩ := c
    obtain ⟨q, rfl⟩ : ∃ q, p = 45 :: q := by
      cases p with
      | nil => simp at c1
      | cons a b => simp at c2; exact ⟨b, by rw [c2]⟩
    have hb : bt (bs (45 :: q)) 0 = 45 := by rw [bt_bs _ 0 (by simp)]; rfl
    have he : (bs (45 :: q)).extract 1 (45 :: q).length = bs q := by rw [bs_extract]; simp
    have hf : spec_meRead.f (k + 1) (bs (45 :: q)) = ((spec_l1Read.f k (bs q)).bind fun t120 => (some (wrap64 (-t120), decide (t120 > 0)))) := by
      unfold spec_meRead.f
      rw [bs_size, if_pos (by omega), if_pos (by omega), hb]
      simp only [spec_meRead.j0, beq_self_eq_true, if_true, bs_size]
      rw [if_pos (by simp only [List.length_cons] at c1 ⊢; omega), he]
    rcases e_l1Read k q (by omega) with ⟨u, hu, rfl, h⟩ | ⟨hn, h⟩
    · rw [hf, h]
      simp only [Option.bind_some]
      by_cases z : u = 0
      · subst z
        refine .inr ⟨fun n hn e => ?_, _, rfl⟩
        unfold Lib.itoa at e
        split at e
        · have := List.tail_eq_of_cons_eq e
          have a := numL_dec n.natAbs
          rw [← this, numL_dec] at a
          omega
        · have hd := dig_le n.toNat 45 (by rw [← e]; simp)
          omega
      · refine .inl ⟨-(u : Int), by omega, ?_, ?_⟩
        · rw [Lib.itoa_neg u (by omega)]
        · rw [decide_eq_true (by omega)]
          congr 2
          unfold wrap64; omega
    · rw [hf, h]
      refine .inr ⟨fun n hn' e => ?_, wrap64 (- -1), by simp⟩
      unfold Lib.itoa at e
      split at e
      · exact hn n.natAbs (by omega) (List.tail_eq_of_cons_eq e)
      · have hd := dig_le n.toNat 45 (by rw [← e]; simp)
        omega
  · have hf : spec_meRead.f (k + 1) (bs p) = ((spec_l1Read.f k (bs p)).bind fun t121 => (some (t121, decide (t121 ≥ 0)))) := by
      unfold spec_meRead.f
      rw [bs_size]
      by_cases c1 : 1 < p.length
      · have hh : p.head? = some p[0] := by rw [List.head?_eq_getElem?, List.getElem?_eq_getElem (by omega)]
        have hb : bt (bs p) 0 = (p[0].toNat : Int) := bt_bs p 0 (by simp; omega)
        have hne : p[0] ≠ 45 := fun z => c ⟨c1, by rw [hh, z]⟩
        have hq : (bt (bs p) 0 == 45) = false := by
          rw [hb, beq_eq_false_iff_ne]
          intro z
          exact hne (UInt8.toNat_inj.1 (by omega))
        rw [if_pos (by omega), if_pos (by omega), hq]
        simp [spec_meRead.j0]
      · rw [if_neg (by omega)]
        simp [spec_meRead.j0]
    rcases e_l1Read k p (by omega) with ⟨u, hu, rfl, h⟩ | ⟨hn, h⟩
    · refine .inl ⟨u, by omega, (Lib.itoa_nonneg u).symm, ?_⟩
      rw [hf, h]
      simp only [Option.bind_some]
      rw [decide_eq_true (by omega)]
    · refine .inr ⟨fun n hn' e => ?_, -1, by rw [hf, h]; rfl⟩
      unfold Lib.itoa at e
      split at e
      · apply c
        rw [e]
        have := dec_pos n.natAbs
        exact ⟨by simp only [List.length_cons]; omega, rfl⟩
      · exact hn n.toNat (by omega) e
/-- One word, as the reference reads it: small numbers alone. -/
def smallW (x : S37) : Prop := (-999999 ≤ x.f0 ∧ x.f0 ≤ 999999) ∧ (-999999 ≤ x.f1 ∧ x.f1 ≤ 999999)
instance (x : S37) : Decidable (smallW x) := by unfold smallW; infer_instance
def pwS (p : List UInt8) : Option S37 := match pwW p with | some x => if smallW x then some x else none | none => none
def pwSF : List (List UInt8) → Option (List S37)
  | [] => some []
  | p :: r => match pwS p with
    | none => none
    | some x => (pwSF r).map (x :: ·)
theorem pwW_some {p : List UInt8} {x : S37} (h : pwW p = some x) : spl 58 p = [Lib.itoa x.f0, Lib.itoa x.f1] ∧ (-9223372036854775808 ≤ x.f0 ∧ x.f0 ≤ 9223372036854775807) ∧ (-9223372036854775808 ≤ x.f1 ∧ x.f1 ≤ 9223372036854775807) := by
  unfold pwW at h
  split at h
  · rename_i a b hr
    obtain rfl := Option.some.inj h
    exact rdN_two hr
  · cases h
theorem pwW_of {p : List UInt8} {a b : Int} (ha : -9223372036854775808 ≤ a ∧ a ≤ 9223372036854775807) (hb : -9223372036854775808 ≤ b ∧ b ≤ 9223372036854775807) (h : spl 58 p = [Lib.itoa a, Lib.itoa b]) : pwW p = some ⟨a, b⟩ := by
  unfold pwW
  rw [h, rdN_pair a b ha hb]
/-- What the reference does with one word. -/
theorem word_S (k : Nat) (p : List UInt8) (hk : p.length + 30 < k) (hp : p.length ≤ 100) (X : S37 → Option (List S37 × Bool)) :
    ((spec_l1Split.f k (bs p) 58).bind fun t127 => (if (t127.length : Int) = 2 then (if 0 < (t127.length : Int) then ((spec_meRead.f k (rdOf ByteArray.empty t127 0)).bind fun bt131 => (if 1 < (t127.length : Int) then ((spec_meRead.f k (rdOf ByteArray.empty t127 1)).bind fun bt134 => (if bt131.2 = true then (if bt134.2 = true then X ⟨bt131.1, bt134.1⟩ else (some (([] : List S37), false))) else (some (([] : List S37), false)))) else (none))) else (none)) else (some (([] : List S37), false)))) =
      match pwS p with | some x => X x | none => some ([], false) := by
  have h58 : ((58 : UInt8).toNat : Int) = 58 := rfl
  have hs := e_l1Split k p 58 (by omega) (by omega)
  rw [h58] at hs
  rw [hs]
  simp only [Option.bind_some, List.length_map]
  have hmem := spla_mem_le 58 p []
  rw [show spla 58 [] p = spl 58 p from rfl] at hmem
  by_cases c : (spl 58 p).length = 2
  · obtain ⟨a, b, hab⟩ : ∃ a b, spl 58 p = [a, b] := by
      match hq : spl 58 p, c with
      | [a, b], _ => exact ⟨a, b, rfl⟩
    have hla := hmem a (by rw [hab]; simp)
    have hlb := hmem b (by rw [hab]; simp)
    simp only [List.length_nil] at hla hlb
    have hlen : ((spl 58 p).length : Int) = 2 := by rw [c]; rfl
    simp only [hlen]
    simp only [show ((0 : Int) < 2) = True from eq_true (by decide), show ((1 : Int) < 2) = True from eq_true (by decide), if_true]
    rw [hab]
    have r0 : rdOf ByteArray.empty ([a, b].map bs) 0 = bs a := rfl
    have r1 : rdOf ByteArray.empty ([a, b].map bs) 1 = bs b := rfl
    rw [r0, r1]
    rcases e_meRead k a (by omega) (by omega) with ⟨m, hm, rfl, h1⟩ | ⟨hm, t, h1⟩
    · rcases e_meRead k b (by omega) (by omega) with ⟨n, hn, rfl, h2⟩ | ⟨hn, t, h2⟩
      · rw [h1, h2]
        simp only [Option.bind_some, if_true]
        have e : pwS p = some ⟨m, n⟩ := by
          unfold pwS
          rw [pwW_of (by omega) (by omega) hab]
          simp only
          rw [if_pos ⟨hm, hn⟩]
        rw [e]
      · rw [h1, h2]
        simp only [Option.bind_some, if_true, Bool.false_eq_true, if_false]
        have e : pwS p = none := by
          unfold pwS
          cases hw : pwW p with
          | none => rfl
          | some x =>
            obtain ⟨e1, _, _⟩ := pwW_some hw
            rw [hab] at e1
            have e2 := (List.cons.inj (List.cons.inj e1).2).1
            simp only
            rw [if_neg (fun z => hn x.f1 z.2 e2)]
        rw [e]
    · obtain ⟨t2, b2, h2⟩ : ∃ t2 b2, spec_meRead.f k (bs b) = some (t2, b2) := by
        rcases e_meRead k b (by omega) (by omega) with ⟨n, hn, _, h2⟩ | ⟨hn, t, h2⟩
        · exact ⟨_, _, h2⟩
        · exact ⟨_, _, h2⟩
      rw [h1, h2]
      simp only [Option.bind_some, Bool.false_eq_true, if_false]
      have e : pwS p = none := by
        unfold pwS
        cases hw : pwW p with
        | none => rfl
        | some x =>
          obtain ⟨e1, _, _⟩ := pwW_some hw
          rw [hab] at e1
          have e2 := (List.cons.inj e1).1
          simp only
          rw [if_neg (fun z => hm x.f0 z.1 e2)]
      rw [e]
  · rw [if_neg (by omega)]
    have e : pwS p = none := by
      unfold pwS
      cases hw : pwW p with
      | none => rfl
      | some x =>
        obtain ⟨e1, _, _⟩ := pwW_some hw
        rw [e1] at c
        exact absurd rfl c
    rw [e]
theorem e_meParse_l0 (ws_ : List (List UInt8)) (hlen : ws_.length ≤ 101) (hw : ∀ p ∈ ws_, p.length ≤ 100) : ∀ (n i k : Nat) (done : List S37), i + n = ws_.length → n + 200 < k → done.length = i →
    spec_meParse.l0 k done (ws_.map bs) (ws_.length : Int) (i : Int) = some (match pwSF (ws_.drop i) with | some l => (if ws (done ++ l) then (done ++ l, true) else ([], false)) | none => ([], false)) := by
  intro n
  induction n with
  | zero =>
    intro i k done hi hk hd
    obtain ⟨k, rfl⟩ : ∃ q, k = q + 1 := ⟨k - 1, by omega⟩
    have hdr : ws_.drop i = [] := List.drop_eq_nil_of_le (by omega)
    unfold spec_meParse.l0
    rw [if_neg (by omega), hdr, e_meAll k done (by omega) (by omega)]
    simp only [Option.bind_some, pwSF, List.append_nil, decide_eq_true_eq]
    split <;> rfl
  | succ n ih =>
    intro i k done hi hk hd
    obtain ⟨k, rfl⟩ : ∃ q, k = q + 1 := ⟨k - 1, by omega⟩
    have hil : i < ws_.length := by omega
    have hdr : ws_.drop i = ws_[i] :: ws_.drop (i + 1) := List.drop_eq_getElem_cons hil
    have hrd : rdOf ByteArray.empty (ws_.map bs) (i : Int) = bs ws_[i] := by simp [rdOf, List.getD_eq_getElem?_getD, hil]
    have hpl := hw ws_[i] (List.getElem_mem _)
    have hw64 : wrap64 ((i : Int) + 1) = ((i + 1 : Nat) : Int) := by unfold wrap64; omega
    unfold spec_meParse.l0
    rw [if_pos (by omega), if_pos (by omega), if_pos (by simp; omega), hrd, hw64, hdr]
    have hX := word_S k ws_[i] (by omega) hpl (fun x => if done.length < 8796093022208 then spec_meParse.l0 k (done ++ [x]) (ws_.map bs) (ws_.length : Int) ((i + 1 : Nat) : Int) else none)
    rw [hX]
    simp only [pwSF]
    cases hq : pwS ws_[i] with
    | none => rfl
    | some x =>
      simp only
      rw [if_pos (by omega), ih (i + 1) k (done ++ [x]) (by omega) (by omega) (by simp; omega)]
      cases pwSF (ws_.drop (i + 1)) with
      | none => rfl
      | some l => simp only [Option.map_some, List.append_assoc, List.cons_append, List.nil_append]
theorem pwSF_F (ps : List (List UInt8)) : (∃ l, pwSF ps = some l ∧ pwF ps = some l) ∨ (pwSF ps = none ∧ (pwF ps = none ∨ ∃ l, pwF ps = some l ∧ ¬ ws l)) := by
  have hbig : ∀ x : S37, ¬ smallW x → ¬ gk x.f0 x.f1 := by
    intro x hx hg
    apply hx
    unfold gk at hg
    unfold smallW
    omega
  have gen : (∃ l, pwSF ps = some l ∧ pwF ps = some l) ∨ (pwSF ps = none ∧ (pwF ps = none ∨ ∃ l, pwF ps = some l ∧ ∃ x ∈ l, ¬ gk x.f0 x.f1)) := by
    induction ps with
    | nil => exact .inl ⟨[], rfl, rfl⟩
    | cons p r ih =>
      simp only [pwSF, pwF]
      cases hw : pwW p with
      | none => exact .inr ⟨by simp [pwS, hw], .inl rfl⟩
      | some x =>
        by_cases hx : smallW x
        · have e : pwS p = some x := by simp [pwS, hw, hx]
          rw [e]
          rcases ih with ⟨l, h1, h2⟩ | ⟨h1, h2 | ⟨l, h2, y, hy, hg⟩⟩
          · exact .inl ⟨x :: l, by simp [h1], by simp [h2]⟩
          · exact .inr ⟨by simp [h1], .inl (by simp [h2])⟩
          · exact .inr ⟨by simp [h1], .inr ⟨x :: l, by simp [h2], y, by simp [hy], hg⟩⟩
        · have e : pwS p = none := by simp [pwS, hw, hx]
          rw [e]
          cases hr : pwF r with
          | none => exact .inr ⟨rfl, .inl rfl⟩
          | some l => exact .inr ⟨rfl, .inr ⟨x :: l, rfl, x, by simp, hbig x hx⟩⟩
  rcases gen with h | ⟨h1, h2 | ⟨l, h2, x, hx, hg⟩⟩
  · exact .inl h
  · exact .inr ⟨h1, .inl h2⟩
  · exact .inr ⟨h1, .inr ⟨l, h2, fun z => hg (z.2 x hx)⟩⟩
/-- A list of words that all read as walkers is the words' text. -/
theorem pwF_words {ps : List (List UInt8)} {l : List S37} (h : pwF ps = some l) : ps = l.map fun x => j2 x.f0 x.f1 [58] := by
  induction ps generalizing l with
  | nil => simp only [pwF, Option.some.injEq] at h; subst h; rfl
  | cons q r ih =>
    simp only [pwF] at h
    cases hq : pwW q with
    | none => rw [hq] at h; cases h
    | some u =>
      rw [hq] at h
      simp only [Option.map_eq_some_iff] at h
      obtain ⟨m, hm, rfl⟩ := h
      have e := (pwW_some hq).1
      have j := spl_join 58 q
      rw [e] at j
      rw [List.map_cons, ← ih hm]
      congr 1
      rw [← j]
      rfl
theorem itoa_len (n : Int) (k : Nat) (h : n.natAbs < 10 ^ (k + 1)) : (Lib.itoa n).length ≤ k + 2 := by
  unfold Lib.itoa
  split
  · have := dec_len k n.natAbs h
    simp only [List.length_cons]; omega
  · have := dec_len k n.toNat (by rw [show n.toNat = n.natAbs by omega]; exact h)
    omega
theorem ws_text_len (l : List S37) (h : ws l) : (Lib.join (l.map fun x => j2 x.f0 x.f1 [58]) [44]).length ≤ 100 := by
  obtain ⟨⟨h1, h8⟩, hx⟩ := h
  have one : ∀ x ∈ l, (j2 x.f0 x.f1 [58]).length ≤ 11 := by
    intro x hm
    have hg := hx x hm
    unfold gk at hg
    have a := itoa_len x.f0 3 (by omega)
    have b := itoa_len x.f1 2 (by omega)
    rw [j2_eq]
    simp only [List.length_append, List.length_cons, List.length_nil]
    omega
  clear hx
  cases l with
  | nil => simp [Lib.join_nil]
  | cons y r =>
    rw [List.map_cons, Lib.join_cons, List.length_append, Lib.joinTail_length]
    have h0 := one y (by simp)
    have hl : Lib.lens (r.map fun x : S37 => j2 x.f0 x.f1 [58]) ≤ 11 * r.length := by
      have hr : ∀ x ∈ r, (j2 x.f0 x.f1 [58]).length ≤ 11 := fun x hm => one x (by simp [hm])
      clear h1 h8 one h0
      induction r with
      | nil => simp [Lib.lens]
      | cons z q ih =>
        have a := ih (fun x hm => hr x (by simp [hm]))
        have b := hr z (by simp)
        simp only [Lib.lens, List.map_cons, List.sum_cons, List.length_cons] at a ⊢
        omega
    simp only [List.length_map, List.length_cons, List.length_nil] at hl h8 ⊢
    omega
theorem e_ParseWalkers (k : Nat) (s : ByteArray) (hs : s.size ≤ 2000000) (hk : 3000000 < k) : spec_ParseWalkers.f k s = some (pwRes (pwF (spl 44 s.data.toList))) := by
  have hsz : s.data.toList.length = s.size := (Lib.size_eq s).symm
  have hlF := spl_length_le 44 s.data.toList []
  rw [show spla 44 [] s.data.toList = spl 44 s.data.toList from rfl] at hlF
  have hres : ∀ l, pwF (spl 44 s.data.toList) = some l → pwRes (some l) = if ws l then (l, true) else ([], false) := by
    intro l hl
    have := pwF_len hl
    unfold pwRes
    simp only
    rw [e_AreWalkers l (by omega)]
    by_cases c : ws l
    · simp [c]
    · simp [c]
  unfold spec_ParseWalkers.f spec_meParse.f
  by_cases c : (s.size : Int) > 100
  · rw [if_pos c]
    simp only [Option.bind_some]
    cases hp : pwF (spl 44 s.data.toList) with
    | none => rfl
    | some l =>
      rw [hres l hp, if_neg]
      intro hw
      have h1 := ws_text_len l hw
      rw [← pwF_words hp, spl_join] at h1
      omega
  · have h44 : ((44 : UInt8).toNat : Int) = 44 := rfl
    have hsp := e_l1Split k s.data.toList 44 (by omega) (by omega)
    rw [h44, bs_of] at hsp
    rw [if_neg c, hsp]
    simp only [Option.bind_some]
    have hmem := spla_mem_le 44 s.data.toList []
    rw [show spla 44 [] s.data.toList = spl 44 s.data.toList from rfl] at hmem
    have hl0 := e_meParse_l0 (spl 44 s.data.toList) (by omega) (fun p hp => by have := hmem p hp; simp only [List.length_nil] at this; omega) (spl 44 s.data.toList).length 0 k [] (by omega) (by omega) rfl
    simp only [List.drop_zero, List.nil_append] at hl0
    rw [List.length_map]
    have h00 : ((0 : Nat) : Int) = 0 := rfl
    rw [h00] at hl0
    rw [hl0]
    rcases pwSF_F (spl 44 s.data.toList) with ⟨l, h1, h2⟩ | ⟨h1, h2 | ⟨l, h2, hn⟩⟩
    · rw [h1, h2, hres l h2]
      simp only [Option.bind_some]
    · rw [h1, h2]; rfl
    · rw [h1, h2, hres l h2, if_neg hn]; rfl

/-- Walkers, all marked. -/
def mkWS (n : Nat) : List S37 := (List.range n).map fun (j : Nat) => ⟨1 + 2 * (j : Int), 2 + 2 * (j : Int)⟩
theorem mkWS_len (n : Nat) : (mkWS n).length = n := by simp [mkWS]
theorem mkWS_at (n i : Nat) (h : i < n) : (mkWS n).getD i z37 = ⟨1 + 2 * (i : Int), 2 + 2 * (i : Int)⟩ := by simp [mkWS, List.getD_eq_getElem?_getD, h]
theorem mkWS_set (l : List S37) (i : Nat) (h : i < l.length) : ((mkWS l.length).take i ++ l.drop i).set i ⟨1 + 2 * (i : Int), 2 + 2 * (i : Int)⟩ = (mkWS l.length).take (i + 1) ++ l.drop (i + 1) := by
  have hl : ((mkWS l.length).take i).length = i := by simp [mkWS_len]; omega
  rw [List.set_append_right _ _ (by omega), hl, Nat.sub_self, List.drop_eq_getElem_cons h, List.set_cons_zero, List.take_succ_eq_append_getElem (by rw [mkWS_len]; exact h), List.append_assoc]
  have := mkWS_at l.length i h
  rw [List.getD_eq_getElem?_getD, List.getElem?_eq_getElem (by rw [mkWS_len]; exact h), Option.getD_some] at this
  rw [this]
  rfl
theorem e_markWS_l0 (l : List S37) (hl : l.length ≤ 3000000) : ∀ (n i k : Nat), i + n = l.length → n < k → laws_markWalkerS.l0 k ((mkWS l.length).take i ++ l.drop i) (1 + 2 * (i : Int)) (i : Int) = some (1 + 2 * (l.length : Int), mkWS l.length) := by
  intro n
  induction n with
  | zero =>
    intro i k hi hk
    obtain ⟨k, rfl⟩ : ∃ m, k = m + 1 := ⟨k - 1, by omega⟩
    simp only [laws_markWalkerS.l0]
    rw [if_neg (by simp [mkWS_len]; omega), List.take_of_length_le (by rw [mkWS_len]; omega), List.drop_eq_nil_of_le (by omega), List.append_nil]
    congr 2
    omega
  | succ n ih =>
    intro i k hi hk
    obtain ⟨k, rfl⟩ : ∃ m, k = m + 1 := ⟨k - 1, by omega⟩
    have hlen : ((mkWS l.length).take i ++ l.drop i).length = l.length := by simp [mkWS_len]; omega
    have e1 : wrap64 (1 + 2 * (i : Int) + 1) = 2 + 2 * (i : Int) := by unfold wrap64; omega
    have e2 : wrap64 (2 + 2 * (i : Int) + 1) = 1 + 2 * ((i + 1 : Nat) : Int) := by unfold wrap64; omega
    have e3 : wrap64 ((i : Int) + 1) = ((i + 1 : Nat) : Int) := by unfold wrap64; omega
    simp only [laws_markWalkerS.l0]
    rw [hlen, if_pos (by omega), if_pos (by omega)]
    simp only [Option.bind_some, Int.toNat_natCast]
    rw [e1, e2, e3, List.set_set]
    have hrd : (rd_T37 (((mkWS l.length).take i ++ l.drop i).set i ⟨1 + 2 * (i : Int), (rd_T37 ((mkWS l.length).take i ++ l.drop i) (i : Int)).f1⟩) (i : Int)).f0 = 1 + 2 * (i : Int) := by
      unfold rd_T37
      rw [Int.toNat_natCast, List.getD_eq_getElem?_getD, List.getElem?_set_self (by rw [hlen]; omega)]
      rfl
    rw [hrd, mkWS_set l i (by omega)]
    exact ih (i + 1) k (by omega) (by omega)
theorem e_markWS (k : Nat) (l : List S37) (hl : l.length ≤ 3000000) (hk : l.length < k) : laws_markWalkerS.f k l 1 = some (1 + 2 * (l.length : Int), mkWS l.length) := by
  have := e_markWS_l0 l hl l.length 0 k (by omega) hk
  simpa [laws_markWalkerS.f] using this
theorem e_heldWS_l0 (L : Nat) (hl : L ≤ 3000000) : ∀ (n i k : Nat), i + n = L → n < k → laws_heldWalkerS.l0 k (mkWS L) (1 + 2 * (i : Int)) (i : Int) = some (1 + 2 * (L : Int)) := by
  intro n
  induction n with
  | zero =>
    intro i k hi hk
    obtain ⟨k, rfl⟩ : ∃ m, k = m + 1 := ⟨k - 1, by omega⟩
    simp only [laws_heldWalkerS.l0]
    rw [if_neg (by rw [mkWS_len]; omega)]
    congr 2
    omega
  | succ n ih =>
    intro i k hi hk
    obtain ⟨k, rfl⟩ : ∃ m, k = m + 1 := ⟨k - 1, by omega⟩
    have e1 : wrap64 (1 + 2 * (i : Int) + 1) = 2 + 2 * (i : Int) := by unfold wrap64; omega
    have e2 : wrap64 (2 + 2 * (i : Int) + 1) = 1 + 2 * ((i + 1 : Nat) : Int) := by unfold wrap64; omega
    have e3 : wrap64 ((i : Int) + 1) = ((i + 1 : Nat) : Int) := by unfold wrap64; omega
    have hrd : rd_T37 (mkWS L) (i : Int) = ⟨1 + 2 * (i : Int), 2 + 2 * (i : Int)⟩ := by
      unfold rd_T37
      rw [Int.toNat_natCast, mkWS_at L i (by omega)]
    simp only [laws_heldWalkerS.l0]
    rw [hrd, if_pos (by rw [mkWS_len]; omega), if_pos (by omega), if_pos rfl, e1, if_pos rfl, e2, e3]
    exact ih (i + 1) k (by omega) (by omega)
theorem e_heldWS (k L : Nat) (hl : L ≤ 3000000) (hk : L < k) : laws_heldWalkerS.f k (mkWS L) 1 = some (1 + 2 * (L : Int)) := by
  have := e_heldWS_l0 L hl L 0 k (by omega) hk
  simpa [laws_heldWalkerS.f] using this

theorem FnExactParseWalkers_all (a0 : ByteArray) (W : World) (hw : a0.size ≤ 140737488351232) (ht : T2 W) :
    Calls Tryd.prog 4 #[.string a0] W fun e w' => e = .returned (.bool true) ∧ Below W.heap.size W w' := by
  by_cases h : (a0.size : Int) > 1048576
  · exact lawPW.big a0 W h hw
  · obtain ⟨N, hN⟩ : ∃ N, 99999997 ≤ N := ⟨99999997, by omega⟩
    have hS := e_ParseWalkers N a0 (by omega) (by omega)
    have hlF := spl_length_le 44 a0.data.toList []
    rw [show spla 44 [] a0.data.toList = spl 44 a0.data.toList from rfl] at hlF
    have hsz : a0.data.toList.length = a0.size := (Lib.size_eq a0).symm
    have hlen : (pwRes (pwF (spl 44 a0.data.toList))).1.length ≤ 2000000 := by
      unfold pwRes
      cases hp : pwF (spl 44 a0.data.toList) with
      | none => simp
      | some l =>
        have := pwF_len hp
        simp only
        split
        · simp only; omega
        · simp
    have hI := fun (W' : World) (hT : T2 W') => pw.calls a0 (by omega) W' hT
    obtain ⟨⟨l, ok⟩, hr⟩ : ∃ r, pwRes (pwF (spl 44 a0.data.toList)) = r := ⟨_, rfl⟩
    rw [hr] at hS hlen hI
    simp only at hlen hI
    exact lawPW.calls N a0 W (by omega) l ok hS hI (e_eqWalkerS N l (by omega) (by omega)) (1 + 2 * (l.length : Int)) (by omega) (mkWS l.length) (mkWS_len _) (e_markWS N l (by omega) (by omega)) (e_heldWS N _ (by omega) (by omega)) ht

end Go.Proofs.YtajocgijmcbmnaaDoor.Pure
