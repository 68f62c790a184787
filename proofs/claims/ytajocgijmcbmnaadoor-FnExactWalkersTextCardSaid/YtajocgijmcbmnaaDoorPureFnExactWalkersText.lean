/- The pure statement of the law FnExactWalkersText: what the program's function computes is what the reference's computes. -/
import Derived.Test.YtajocgijmcbmnaaDoorTxWTL
namespace Go.Proofs.YtajocgijmcbmnaaDoor.Pure
open Go.RowKit Go.Proofs.YtajocgijmcbmnaaDoor.Tx Go.Proofs.YtajocgijmcbmnaaDoor.OFnExactWalkersText Go.Proofs.YtajocgijmcbmnaaDoorW.PrintWords Go.Proofs.YtajocgijmcbmnaaDoorW.PrintLast Go.Proofs.YtajocgijmcbmnaaDoorW.PrintMore
set_option linter.unusedVariables false
set_option linter.unusedSimpArgs false
theorem w64 (n : Int) (h1 : -9223372036854775808 ≤ n) (h2 : n ≤ 9223372036854775807) : wrap64 n = n := by unfold wrap64; omega
theorem dec_and (p q : Prop) [Decidable p] [Decidable q] [Decidable (p ∧ q)] : (if p then some (decide q) else some false) = some (decide (p ∧ q)) := by
  by_cases h : p <;> by_cases h' : q <;> simp [h, h']
theorem le_cases (a b c : Int) : (if a ≥ b then some (decide (a ≤ c)) else some false) = some (decide (b ≤ a ∧ a ≤ c)) := by
  by_cases h : b ≤ a <;> by_cases h' : a ≤ c <;> simp [h, h']
def gd (u d : Int) : Prop := 1 ≤ u ∧ u ≤ 1000 ∧ 0 ≤ d ∧ d ≤ 1000
instance (u d : Int) : Decidable (gd u d) := by unfold gd; infer_instance
def gk (p s : Int) : Prop := -1000 ≤ p ∧ p ≤ 1000 ∧ -100 ≤ s ∧ s ≤ 100
instance (p s : Int) : Decidable (gk p s) := by unfold gk; infer_instance
def gw (w : Int) : Prop := 1 ≤ w ∧ w ≤ 1000000
instance (w : Int) : Decidable (gw w) := by unfold gw; infer_instance
def reach (u d day : Int) : Int := if u ≤ d then u else u + (day - 1) * (u - d)
def dayH (u d h : Int) : Int := if h ≤ u then 1 else if u ≤ d then 0 else 1 + (h - u + (u - d) - 1) / (u - d)
theorem mul_bd (a b A B : Int) (h1 : 0 ≤ a) (h2 : a ≤ A) (h3 : 0 ≤ b) (h4 : b ≤ B) : 0 ≤ a * b ∧ a * b ≤ A * B :=
  ⟨Int.mul_nonneg h1 h3, Int.mul_le_mul h2 h4 h3 (by omega)⟩
theorem reach_bd (u d day : Int) (g : gd u d) (w : gw day) : u ≤ reach u d day ∧ reach u d day ≤ 1000000000 := by
  unfold gd at g; unfold gw at w; unfold reach
  split
  · omega
  · have := mul_bd (day - 1) (u - d) 999999 1000 (by omega) (by omega) (by omega) (by omega)
    omega
theorem div_bd (x g : Int) (hg : 1 ≤ g) (hx : 0 ≤ x) : 0 ≤ x / g ∧ x / g ≤ x :=
  ⟨Int.ediv_nonneg hx (by omega), Int.ediv_le_self _ hx⟩
theorem dayH_bd (u d h : Int) (g : gd u d) (hh : h ≤ 1000000) : 0 ≤ dayH u d h ∧ dayH u d h ≤ 1001000 := by
  unfold gd at g; unfold dayH
  split
  · omega
  · split
    · omega
    · have := div_bd (h - u + (u - d) - 1) (u - d) (by omega) (by omega)
      omega
theorem ceil_le (x g n : Int) (hg : 1 ≤ g) : (x + g - 1) / g ≤ n ↔ x ≤ n * g := by
  have h : (x + g - 1) / g < n + 1 ↔ x + g - 1 < (n + 1) * g := Int.ediv_lt_iff_lt_mul (by omega)
  have e : (n + 1) * g = n * g + g := by rw [Int.add_mul, Int.one_mul]
  rw [e] at h
  constructor
  · intro k; have := h.mp (by omega); omega
  · intro k; have := h.mpr (by omega); omega
/-- The day is reached at the end of a day just if that day is not before it. -/
theorem dayH_le (u d h day : Int) (hd : 1 ≤ day) : (0 < dayH u d h ∧ dayH u d h ≤ day) ↔ h ≤ reach u d day := by
  unfold dayH reach
  by_cases h1 : h ≤ u
  · rw [if_pos h1]
    split
    · omega
    · have := Int.mul_nonneg (show 0 ≤ day - 1 by omega) (show 0 ≤ u - d by omega)
      omega
  · rw [if_neg h1]
    by_cases h2 : u ≤ d
    · rw [if_pos h2, if_pos h2]; omega
    · rw [if_neg h2, if_neg h2]
      have a := Int.ediv_nonneg (show 0 ≤ h - u + (u - d) - 1 by omega) (show 0 ≤ u - d by omega)
      have c := ceil_le (h - u) (u - d) (day - 1) (by omega)
      constructor
      · rintro ⟨_, k⟩; have := c.mp (by omega); omega
      · intro k; have := c.mpr (by omega); omega
def daysV (u d w : Int) : Int × Bool := if gd u d ∧ gw w then (dayH u d w, decide (0 < dayH u d w)) else (0, false)
def greatV (u d w : Int) : Int × Bool := if gd u d ∧ gw w then (reach u d w, true) else (0, false)
def evenV (u d w day : Int) : Int × Bool := if (gd u d ∧ gw w) ∧ gw day then (min w (reach u d day), true) else (0, false)
def mornV (u d w day : Int) : Int × Bool := if (gd u d ∧ gw w) ∧ gw day then (if day = 1 then 0 else if min w (reach u d (day - 1)) = w then w else max 0 (min w (reach u d (day - 1)) - d), true) else (0, false)
def mornI (u d w day : Int) : Int := if day = 1 then 0 else if min w (reach u d (day - 1)) = w then w else max 0 (min w (reach u d (day - 1)) - d)
def dayV (u d w h : Int) : Int × Bool := if (gd u d ∧ gw w) ∧ 0 ≤ h ∧ h ≤ w then (dayH u d h, decide (0 < dayH u d h)) else (0, false)
def leadV (u d u' d' w day : Int) : Int × Bool := if ((gd u d ∧ gw w) ∧ gd u' d') ∧ gw day then (min w (reach u d day) - min w (reach u' d' day), true) else (0, false)
def upL (P : Int → Bool) : Nat → Int → Int × Bool
  | 0, _ => (0, false)
  | n + 1, up => if P up = true then (up, true) else upL P n (up + 1)
def slowP (w days d up : Int) : Bool := decide (w ≤ reach up d days)
def slowV (w days d : Int) : Int × Bool := if (gw w ∧ gw days) ∧ 0 ≤ d ∧ d ≤ 1000 then upL (slowP w days d) 1000 1 else (0, false)
def downL (P : Int → Bool) : Nat → Int → Int × Bool
  | 0, _ => (0, false)
  | n + 1, x => if P x = true then (x, true) else downL P n (x - 1)
def mostP (w days u x : Int) : Bool := decide (w ≤ reach u x days)
def mostV (w days u : Int) : Int × Bool := if (gw w ∧ gw days) ∧ 1 ≤ u ∧ u ≤ 1000 then downL (mostP w days u) 1001 1000 else (0, false)
theorem e_within (a b c : Int) : impl_within.f a b c = some (decide (b ≤ a ∧ a ≤ c)) := by
  unfold impl_within.f; exact le_cases a b c
theorem e_l1In (a b c : Int) : spec_l1In.f a b c = some (decide (b ≤ a ∧ a ≤ c)) := by
  unfold spec_l1In.f; exact le_cases a b c
theorem e_toWalker (u d : Int) : laws_toWalker.f u d = some (u, d) := rfl
theorem e_iIsWalker (u d : Int) : impl_IsWalker.f u d = some (decide (gk u d)) := by
  unfold impl_IsWalker.f; simp only [e_within, Option.bind_some]
  by_cases h : -1000 ≤ u ∧ u ≤ 1000 <;> by_cases h' : -100 ≤ d ∧ d ≤ 100 <;> simp [gk, h, h'] <;> omega
theorem e_meGood (u d : Int) : spec_meGood.f u d = some (decide (gk u d)) := by
  unfold spec_meGood.f; simp only [e_l1In, Option.bind_some]
  by_cases h : -1000 ≤ u ∧ u ≤ 1000 <;> by_cases h' : -100 ≤ d ∧ d ≤ 100 <;> simp [gk, h, h'] <;> omega
theorem uniq (a b q r : Int) (hb : 0 < b) (e : b * q + r = a) (h0 : 0 ≤ r) (h1 : r < b) : a / b = q ∧ a % b = r :=
  (Int.ediv_emod_unique hb).mpr ⟨by rw [← e]; exact Int.add_comm _ _, h0, h1⟩
theorem tm_bd (a b : Int) (hb : 0 < b) : b * a.tdiv b + a.tmod b = a ∧ -b < a.tmod b ∧ a.tmod b < b :=
  ⟨Int.mul_tdiv_add_tmod a b, Int.lt_tmod_of_pos a hb, Int.tmod_lt_of_pos a hb⟩
theorem floor_is (a b : Int) (hb : 0 < b) : (if a.tmod b < 0 then a.tdiv b - 1 else a.tdiv b) = a / b := by
  obtain ⟨e, h0, h1⟩ := tm_bd a b hb
  split
  · have := uniq a b (a.tdiv b - 1) (a.tmod b + b) hb (by rw [Int.mul_sub]; omega) (by omega) (by omega)
    exact this.1.symm
  · have := uniq a b (a.tdiv b) (a.tmod b) hb e (by omega) h1
    exact this.1.symm
theorem mod_is (a b : Int) (hb : 0 < b) : (a.tmod b + b).tmod b = a % b := by
  obtain ⟨e, h0, h1⟩ := tm_bd a b hb
  rw [Int.tmod_eq_emod_of_nonneg (by omega), Int.add_emod_right]
  have h := Int.add_mul_emod_self_left (a.tmod b) b (a.tdiv b)
  rw [Int.add_comm, e] at h
  exact h.symm
theorem abs_mx (a : Int) : mx a (-a) = (a.natAbs : Int) := by unfold mx; split <;> omega
theorem gcd_pos (num den : Int) (h : den ≠ 0) : 0 < (Int.gcd num den : Int) := by
  have : 0 < Int.gcd num den := Int.gcd_pos_of_ne_zero_right _ h
  omega
theorem tdiv_ex (a g : Int) (h : g ∣ a) : a.tdiv g = a / g := Int.tdiv_eq_ediv_of_dvd h
def gt (a b : Int) : Prop := 0 ≤ a ∧ a ≤ 1000000 ∧ 1 ≤ b ∧ b ≤ 1000
instance (a b : Int) : Decidable (gt a b) := by unfold gt; infer_instance
def gr (a : Int) : Prop := 1 ≤ a ∧ a ≤ 1000
instance (a : Int) : Decidable (gr a) := by unfold gr; infer_instance
def lowN (num den : Int) : Int := (if den < 0 then -num else num) / (Int.gcd num den : Int)
def lowD (num den : Int) : Int := (if den < 0 then -den else den) / (Int.gcd num den : Int)
def placeV (p s num den : Int) : Int := p * den + s * num
def wpV (p s num den : Int) : Int × Int × Bool := if gk p s ∧ gt num den then (lowN (placeV p s num den) den, lowD (placeV p s num den) den, true) else (0, 0, false)
def gapV (p s p' s' num den : Int) : Int := ((placeV p s num den - placeV p' s' num den).natAbs : Int)
def gaV (p s p' s' num den : Int) : Int × Int × Bool := if (gk p s ∧ gk p' s') ∧ gt num den then (lowN (gapV p s p' s' num den) den, lowD (gapV p s p' s' num den) den, true) else (0, 0, false)
def meetV (p s p' s' : Int) : Int × Int × Bool := if p = p' then (0, 1, true) else if s = s' then (0, 0, false) else if lowN (p' - p) (s - s') < 0 then (0, 0, false) else (lowN (p' - p) (s - s'), lowD (p' - p) (s - s'), true)
def mtV (p s p' s' : Int) : Int × Int × Bool := if gk p s ∧ gk p' s' then meetV p s p' s' else (0, 0, false)
def mpV (p s p' s' : Int) : Int × Int × Bool := if (gk p s ∧ gk p' s') ∧ (meetV p s p' s').2.2 = true then (lowN (placeV p s (meetV p s p' s').1 (meetV p s p' s').2.1) (meetV p s p' s').2.1, lowD (placeV p s (meetV p s p' s').1 (meetV p s p' s').2.1) (meetV p s p' s').2.1, true) else (0, 0, false)
def ringV (a p s p' s' : Int) : Int × Int := if s < s' then ((p - p') % a, s' - s) else ((p' - p) % a, s - s')
def ringV' (a p s p' s' : Int) : Int × Int := if s < s' then ((p - p') % a, s' - s) else ((p' - p) % a, s - s')
def rgV (a p s p' s' : Int) : Int × Int × Bool := if ((gr a ∧ gk p s) ∧ gk p' s') ∧ ¬ s = s' then (lowN a ((s - s').natAbs : Int), lowD a ((s - s').natAbs : Int), true) else (0, 0, false)
def crV (a p s p' s' t : Int) : Int × Bool := if (((gr a ∧ gk p s) ∧ gk p' s') ∧ ¬ s = s') ∧ 0 ≤ t ∧ t ≤ 1000 then (if t * (ringV a p s p' s').2 < (ringV a p s p' s').1 then 0 else (t * (ringV a p s p' s').2 - (ringV a p s p' s').1) / a + 1, true) else (0, false)
theorem div_abs (a g : Int) (hg : 1 ≤ g) (B : Int) (h : -B ≤ a ∧ a ≤ B) : -B ≤ a / g ∧ a / g ≤ B := by
  constructor
  · have : -B ≤ a / g ↔ -B * g ≤ a := Int.le_ediv_iff_mul_le (by omega)
    refine this.mpr ?_
    have hB : 0 ≤ B := by omega
    have := Int.mul_le_mul_of_nonneg_left hg hB
    rw [Int.neg_mul]; omega
  · rcases Int.lt_or_le a 0 with h' | h'
    · have : a / g < 0 ↔ a < 0 * g := Int.ediv_lt_iff_lt_mul (by omega)
      have := this.mpr (by omega)
      omega
    · have := Int.ediv_le_self g h'
      omega
theorem low_bd (num den B : Int) (hd : den ≠ 0) (h1 : -B ≤ num ∧ num ≤ B) (h2 : -B ≤ den ∧ den ≤ B) : (-B ≤ lowN num den ∧ lowN num den ≤ B) ∧ (1 ≤ lowD num den ∧ lowD num den ≤ B) := by
  have hg := gcd_pos num den hd
  refine ⟨?_, ?_⟩
  · unfold lowN; exact div_abs _ _ (by omega) B (by split <;> omega)
  · have h := div_abs (if den < 0 then -den else den) (Int.gcd num den : Int) (by omega) B (by split <;> omega)
    unfold lowD
    refine ⟨?_, h.2⟩
    have hd' : (Int.gcd num den : Int) ∣ (if den < 0 then -den else den) := by
      split
      · exact Int.dvd_neg.mpr (Int.gcd_dvd_right ..)
      · exact Int.gcd_dvd_right ..
    have hp : 0 < (if den < 0 then -den else den) := by split <;> omega
    have := Int.ediv_pos_of_pos_of_dvd hp (by omega) hd'
    omega
theorem lowN_neg (num den : Int) (hd : den ≠ 0) : lowN num den < 0 ↔ (if den < 0 then -num else num) < 0 := by
  have hg := gcd_pos num den hd
  unfold lowN
  have : (if den < 0 then -num else num) / (Int.gcd num den : Int) < 0 ↔ (if den < 0 then -num else num) < 0 * (Int.gcd num den : Int) := Int.ediv_lt_iff_lt_mul (by omega)
  rw [Int.zero_mul] at this
  exact this
theorem ediv_min (a g : Int) (h : g ∣ a) (hg : g ≠ 0) : -a / g = -(a / g) := Int.neg_ediv_of_dvd h
theorem abs_mul (a b A B : Int) (h1 : -A ≤ a ∧ a ≤ A) (h2 : 0 ≤ b ∧ b ≤ B) : -(A * B) ≤ a * b ∧ a * b ≤ A * B := by
  have hA : 0 ≤ A := by omega
  have t : A * b ≤ A * B := Int.mul_le_mul_of_nonneg_left h2.2 hA
  have t1 : a * b ≤ A * b := Int.mul_le_mul_of_nonneg_right h1.2 h2.1
  have t2 : -A * b ≤ a * b := Int.mul_le_mul_of_nonneg_right h1.1 h2.1
  rw [Int.neg_mul] at t2
  omega
theorem rdn (l : List Int) (i : Nat) : rd l (i : Int) = l.getD i 0 := by simp [rd]
theorem drop_cons (l : List Int) (i : Nat) (h : i < l.length) : l.drop i = l.getD i 0 :: l.drop (i + 1) := by
  rw [List.drop_eq_getElem_cons h]; simp [List.getD_eq_getElem?_getD, h]
theorem getD_mem (l : List Int) (i : Nat) (h : i < l.length) : l.getD i 0 ∈ l := by
  simp [List.getD_eq_getElem?_getD, h]
theorem round1 {k n : Nat} (h : n < k) : ∃ m, k = m + 1 ∧ n ≤ m := ⟨k - 1, by omega, by omega⟩
def gs (up : Int) (s : List Int) : Prop := (1 ≤ up ∧ up ≤ 1000) ∧ (1 ≤ (s.length : Int) ∧ (s.length : Int) ≤ 12) ∧ ∀ x ∈ s, 0 ≤ x ∧ x ≤ 1000
instance (up : Int) (s : List Int) : Decidable (gs up s) := by unfold gs; infer_instance
/-- The slip of the night behind day j + 1. -/
def sl (s : List Int) (j : Nat) : Int := s.getD (j % s.length) 0
theorem sl_bd (up : Int) (s : List Int) (g : gs up s) (j : Nat) : 0 ≤ sl s j ∧ sl s j ≤ 1000 := by
  obtain ⟨_, h, ha⟩ := g
  exact ha _ (getD_mem s _ (Nat.mod_lt _ (by omega)))
theorem tmod_nat (j n : Nat) : Int.tmod (j : Int) (n : Int) = ((j % n : Nat) : Int) := by
  rw [Int.tmod_eq_emod_of_nonneg (by omega), Int.natCast_emod]
/-- How far it comes at most: rounds left, day, height in the morning, most so far. -/
def gsL (up : Int) (s : List Int) : Nat → Nat → Int → Int → Int
  | 0, _, _, most => most
  | n + 1, j, m, most => gsL up s n (j + 1) (max 0 (m + up - sl s j)) (max most (m + up))
def gwsV (up : Int) (s : List Int) (days : Int) : Int × Bool := if gs up s ∧ gw days then (gsL up s days.toNat 0 0 0, true) else (0, false)
/-- How high it is in the morning before day j + 1, if there is no top. -/
def mor (up : Int) (s : List Int) : Nat → Int
  | 0 => 0
  | j + 1 => max 0 (mor up s j + up - sl s j)
theorem mor_bd (up : Int) (s : List Int) (g : gs up s) : ∀ j : Nat, 0 ≤ mor up s j ∧ mor up s j ≤ j * 1000 := by
  intro j
  induction j with
  | zero => simp [mor]
  | succ j ih =>
    have hs := sl_bd up s g j
    have g1 := g.1
    simp only [mor]
    omega
theorem sl_per (s : List Int) (j : Nat) : sl s (j + s.length) = sl s j := by unfold sl; rw [Nat.add_mod_right]
theorem mor_step (up : Int) (s : List Int) (a : Nat) (h : mor up s (a + s.length) ≤ mor up s a) : ∀ t, mor up s (a + t + s.length) ≤ mor up s (a + t) := by
  intro t
  induction t with
  | zero => exact h
  | succ t ih =>
    have e : a + (t + 1) + s.length = (a + t + s.length) + 1 := by omega
    rw [e, show a + (t + 1) = (a + t) + 1 by omega]
    simp only [mor]
    rw [sl_per s (a + t)]
    omega
theorem mor_never (up w : Int) (s : List Int) (hs : 1 ≤ s.length) (a : Nat) (h : mor up s (a + s.length) ≤ mor up s a) (hb : ∀ i, i < a + s.length → mor up s i + up < w) : ∀ j, mor up s j + up < w := by
  intro j
  induction j using Nat.strongRecOn with
  | ind j ih =>
    rcases Nat.lt_or_ge j (a + s.length) with h1 | h1
    · exact hb j h1
    · have := mor_step up s a h (j - s.length - a)
      rw [show a + (j - s.length - a) + s.length = j by omega, show a + (j - s.length - a) = j - s.length by omega] at this
      have := ih (j - s.length) (by omega)
      omega
/-- What the day of the top is: the first one, or that there is none. -/
def DS (up : Int) (s : List Int) (w : Int) (r : Int × Bool) : Prop :=
  (∃ j : Nat, r = ((j : Int) + 1, true) ∧ mor up s j + up ≥ w ∧ ∀ i, i < j → mor up s i + up < w) ∨ (r = (0, false) ∧ ∀ j, mor up s j + up < w)
theorem DS_one (up : Int) (s : List Int) (w : Int) (r r' : Int × Bool) (h : DS up s w r) (h' : DS up s w r') : r = r' := by
  rcases h with ⟨j, e, a, b⟩ | ⟨e, a⟩ <;> rcases h' with ⟨j', e', a', b'⟩ | ⟨e', a'⟩
  · rcases Nat.lt_trichotomy j j' with h | h | h
    · have := b' j h; omega
    · rw [e, e', h]
    · have := b j' h; omega
  · have := a' j; omega
  · have := a j'; omega
  · rw [e, e']
def toI (x : S39) : S37 := ⟨x.f0, x.f1⟩
theorem getD_map_toI (l : List S39) (i : Nat) (h : i < l.length) : (l.map toI).getD i z37 = toI (l.getD i z39) := by
  simp [List.getD_eq_getElem?_getD, h]
theorem set_take_dropS (l m : List S37) (i : Nat) (h : i < l.length) (h' : i < m.length) : (l.take i ++ m.drop i).set i (l.getD i z37) = l.take (i + 1) ++ m.drop (i + 1) := by
  have hl : (l.take i).length = i := by simp; omega
  rw [List.set_append_right _ _ (by omega), hl, Nat.sub_self, List.drop_eq_getElem_cons h', List.set_cons_zero, List.take_succ_eq_append_getElem h, List.append_assoc]
  simp [List.getD_eq_getElem?_getD, h]
theorem e_toWalkerS_l0 (l : List S39) (hl : (l.length : Int) ≤ 9000000000000000000) : ∀ (n i k : Nat), i + n = l.length → n < k → laws_toWalkerS.l0 k l ((l.map toI).take i ++ (List.replicate l.length z37).drop i) (i : Int) = some (l.map toI) := by
  intro n
  induction n with
  | zero =>
    intro i k hi hk
    obtain ⟨k, rfl, hk⟩ := round1 hk
    simp only [laws_toWalkerS.l0]
    rw [if_neg (by omega), List.take_of_length_le (by simp; omega), List.drop_eq_nil_of_le (by simp; omega), List.append_nil]
  | succ n ih =>
    intro i k hi hk
    obtain ⟨k, rfl, hk⟩ := round1 hk
    simp only [laws_toWalkerS.l0, e_toWalker, Option.bind_some]
    rw [if_pos (by omega), if_pos (by omega), if_pos (by simp; omega), w64 _ (by omega) (by omega), show ((i : Int)).toNat = i by omega, show ((i : Int) + 1) = ((i + 1 : Nat) : Int) by omega]
    have e : (⟨(rd_T39 l (i : Int)).f0, (rd_T39 l (i : Int)).f1⟩ : S37) = (l.map toI).getD i z37 := by
      rw [getD_map_toI l i (by omega)]; unfold rd_T39 toI; rw [show ((i : Int)).toNat = i by omega]
    rw [e, set_take_dropS _ _ i (by simp; omega) (by simp; omega)]
    exact ih (i + 1) k (by omega) (by omega)
theorem e_toWalkerS (k : Nat) (l : List S39) (hl : l.length ≤ 1048576) (hk : l.length < k) : laws_toWalkerS.f k l = some (l.map toI) := by
  unfold laws_toWalkerS.f
  rw [if_pos (by omega), if_pos (by omega)]
  have := e_toWalkerS_l0 l (by omega) l.length 0 k (by omega) hk
  simpa using this
theorem e_szWalkerS (l : List S39) (hm : l.length ≤ maxLen) : laws_szWalkerS.f l 1048576 = some (if (l.length : Int) > 1048576 then -1 else 1048576 - (l.length : Int)) := by
  unfold maxLen at hm
  unfold laws_szWalkerS.f
  rw [w64 _ (by omega) (by omega)]
  split <;> split <;> first | rfl | omega
theorem e_eqWalker (a b : Int) : laws_eqWalker.f a b a b = some true := by
  unfold laws_eqWalker.f; simp
theorem e_eqWalkerS_l0 (l : List S37) (hl : (l.length : Int) ≤ 9000000000000000000) : ∀ (n i k : Nat), i + n = l.length → n < k → laws_eqWalkerS.l0 k l l (i : Int) = some true := by
  intro n
  induction n with
  | zero =>
    intro i k hi hk
    obtain ⟨k, rfl, hk⟩ := round1 hk
    simp only [laws_eqWalkerS.l0]; rw [if_neg (by omega)]
  | succ n ih =>
    intro i k hi hk
    obtain ⟨k, rfl, hk⟩ := round1 hk
    simp only [laws_eqWalkerS.l0, e_eqWalker, Option.bind_some]
    rw [if_pos (by omega), if_pos (by omega), if_pos (by omega), if_true, w64 _ (by omega) (by omega), show ((i : Int) + 1) = ((i + 1 : Nat) : Int) by omega]
    exact ih (i + 1) k (by omega) (by omega)
theorem e_eqWalkerS (k : Nat) (l : List S37) (hl : (l.length : Int) ≤ 9000000000000000000) (hk : l.length < k) : laws_eqWalkerS.f k l l = some true := by
  unfold laws_eqWalkerS.f; rw [if_pos rfl]; exact e_eqWalkerS_l0 l hl l.length 0 k (by omega) hk
def ws (l : List S37) : Prop := (1 ≤ (l.length : Int) ∧ (l.length : Int) ≤ 8) ∧ ∀ x ∈ l, gk x.f0 x.f1
instance (l : List S37) : Decidable (ws l) := by unfold ws; infer_instance
theorem drop_consS (l : List S37) (i : Nat) (h : i < l.length) : l.drop i = l.getD i z37 :: l.drop (i + 1) := by
  rw [List.drop_eq_getElem_cons h]; simp [List.getD_eq_getElem?_getD, h]
theorem rdS (l : List S37) (i : Nat) : rd_T37 l (i : Int) = l.getD i z37 := by unfold rd_T37; simp
theorem e_meAll_l0 (l : List S37) (hl : (l.length : Int) ≤ 9000000000000000000) : ∀ (n i k : Nat), i + n = l.length → n < k → spec_meAll.l0 k l (l.length : Int) (i : Int) = some (decide (∀ x ∈ l.drop i, gk x.f0 x.f1)) := by
  intro n
  induction n with
  | zero =>
    intro i k hi hk
    obtain ⟨k, rfl, hk⟩ := round1 hk
    simp only [spec_meAll.l0]
    rw [if_neg (by omega), List.drop_eq_nil_of_le (by omega)]; simp
  | succ n ih =>
    intro i k hi' hk
    obtain ⟨k, rfl, hk⟩ := round1 hk
    simp only [spec_meAll.l0]
    rw [if_pos (by omega), if_pos (by omega), if_pos (by omega), rdS, e_meGood, drop_consS l i (by omega), w64 _ (by omega) (by omega)]
    have e : ((i : Int) + 1) = ((i + 1 : Nat) : Int) := by omega
    rw [e, ih (i + 1) k (by omega) (by omega)]
    simp only [Option.bind_some, decide_eq_true_eq, List.forall_mem_cons]
    by_cases h : gk (l.getD i z37).f0 (l.getD i z37).f1
    · rw [if_pos h]; congr 1; exact decide_eq_decide.mpr ⟨fun z => ⟨h, z⟩, fun z => z.2⟩
    · rw [if_neg h]; congr 1; symm; rw [decide_eq_false_iff_not]; exact fun z => h z.1
theorem e_meAll (k : Nat) (l : List S37) (hl : (l.length : Int) ≤ 9000000000000000000) (hk : l.length < k) : spec_meAll.f k l = some (decide (ws l)) := by
  unfold spec_meAll.f ws
  have := e_meAll_l0 l hl l.length 0 k (by omega) hk
  rw [e_l1In]; simp only [Option.bind_some, decide_eq_true_eq]
  by_cases h : 1 ≤ (l.length : Int) ∧ (l.length : Int) ≤ 8
  · rw [if_pos h]; simp only [h, true_and, and_self]; exact this
  · rw [if_neg h]; simp only [h, false_and, decide_false]
theorem e_AreWalkers (l : List S37) (hl : (l.length : Int) ≤ 9000000000000000000) : impl_AreWalkers.f l = some (decide (ws l)) := by
  unfold impl_AreWalkers.f ws; rw [if_pos hl]
  congr 1
  rw [Bool.eq_iff_iff]
  simp only [Bool.and_eq_true, decide_eq_true_eq, List.all_eq_true, impl_AreWalkers.q, gk]
  exact decide_eq_true_iff.symm
def gtr (lap p s : Int) : Prop := (2 ≤ lap ∧ lap ≤ 1000) ∧ (0 ≤ p ∧ p ≤ lap - 1) ∧ 1 ≤ s ∧ s ≤ 100
instance (lap p s : Int) : Decidable (gtr lap p s) := by unfold gtr; infer_instance
def grt (t : Int) : Prop := 0 ≤ t ∧ t ≤ 1000000
instance (t : Int) : Decidable (grt t) := by unfold grt; infer_instance
def glp (t : Int) : Prop := 1 ≤ t ∧ t ≤ 100
instance (t : Int) : Decidable (glp t) := by unfold glp; infer_instance
theorem evs {α : Type} {g f : Nat → Option α} {r : α} (K : Nat) (h : ∀ k, K ≤ k → g (k + 1) = f k) (k : Ev f r) : Ev g r := by
  obtain ⟨K', k⟩ := k
  refine ⟨max K K' + 1, fun n hn => ?_⟩
  obtain ⟨m, rfl⟩ : ∃ m, n = m + 1 := ⟨n - 1, by omega⟩
  rw [h m (by omega)]
  exact k m (by omega)
theorem low_neg (a b : Int) (hb : b ≠ 0) : lowN (-a) (-b) = lowN a b ∧ lowD (-a) (-b) = lowD a b := by
  have e : Int.gcd (-a) (-b) = Int.gcd a b := by simp [Int.gcd]
  unfold lowN lowD
  rw [e]
  by_cases h : b < 0
  · rw [if_pos h, if_pos h, if_neg (by omega), if_neg (by omega)]; exact ⟨rfl, rfl⟩
  · rw [if_neg h, if_neg h, if_pos (by omega), if_pos (by omega), Int.neg_neg, Int.neg_neg]; exact ⟨rfl, rfl⟩
theorem meet_sym (p s p' s' : Int) : meetV p s p' s' = meetV p' s' p s := by
  unfold meetV
  by_cases h : p = p'
  · rw [if_pos h, if_pos h.symm]
  · by_cases h2 : s = s'
    · rw [if_neg h, if_neg (fun z : p' = p => h z.symm), if_pos h2, if_pos h2.symm]
    · have q := low_neg (p' - p) (s - s') (by omega)
      rw [show -(p' - p) = p - p' by omega, show -(s - s') = s' - s by omega] at q
      rw [if_neg h, if_neg (fun z : p' = p => h z.symm), if_neg h2, if_neg (fun z : s' = s => h2 z.symm), q.1, q.2]
theorem low_cross (a b : Int) (hb : b ≠ 0) : lowN a b * b = lowD a b * a := by
  have hg := gcd_pos a b hb
  obtain ⟨u, hu⟩ : (Int.gcd a b : Int) ∣ a := Int.gcd_dvd_left ..
  obtain ⟨v, hv⟩ : (Int.gcd a b : Int) ∣ b := Int.gcd_dvd_right ..
  unfold lowN lowD
  generalize (Int.gcd a b : Int) = g at *
  subst hu hv
  by_cases h : g * v < 0
  · rw [if_pos h, if_pos h, show -(g * u) = g * (-u) by rw [Int.mul_neg], show -(g * v) = g * (-v) by rw [Int.mul_neg], Int.mul_ediv_cancel_left _ (by omega), Int.mul_ediv_cancel_left _ (by omega)]
    rw [Int.neg_mul, Int.neg_mul, Int.mul_left_comm u g v, Int.mul_left_comm v g u, Int.mul_comm u v]
  · rw [if_neg h, if_neg h, Int.mul_ediv_cancel_left _ (by omega), Int.mul_ediv_cancel_left _ (by omega)]
    rw [Int.mul_left_comm u g v, Int.mul_left_comm v g u, Int.mul_comm u v]
/-- Where they meet: the time times the difference of speeds is the gap. -/
theorem meet_cross (p s p' s' : Int) (h : (meetV p s p' s').2.2 = true) (hp : p ≠ p') : (meetV p s p' s').1 * (s - s') = (meetV p s p' s').2.1 * (p' - p) ∧ s ≠ s' := by
  unfold meetV at h ⊢
  rw [if_neg hp] at h ⊢
  by_cases h2 : s = s'
  · rw [if_pos h2] at h; simp at h
  · rw [if_neg h2] at h ⊢
    by_cases h3 : lowN (p' - p) (s - s') < 0
    · rw [if_pos h3] at h; simp at h
    · rw [if_neg h3]
      exact ⟨low_cross _ _ (by omega), h2⟩
/-- One that is faster and behind is met. -/
theorem meet_ok (p s p' s' : Int) (hp : p < p') (hs : s > s') : (meetV p s p' s').2.2 = true := by
  unfold meetV
  have q := lowN_neg (p' - p) (s - s') (by omega)
  rw [if_neg (by omega), if_neg (by omega), if_neg]
  intro z
  have := q.mp z
  rw [if_neg (by omega)] at this
  omega
theorem mul_pos' {a b : Int} (ha : 0 < a) (hb : 0 < b) : 0 < a * b := Int.mul_pos ha hb
/-- a/b ≤ x/y and x/y ≤ u/v. -/
theorem frac_trans (a b x y u v : Int) (hb : 0 < b) (hy : 0 < y) (hv : 0 < v) (h1 : a * y ≤ x * b) (h2 : x * v ≤ u * y) : a * v ≤ u * b := by
  have e1 : a * y * v ≤ x * b * v := Int.mul_le_mul_of_nonneg_right h1 (by omega)
  have e2 : x * v * b ≤ u * y * b := Int.mul_le_mul_of_nonneg_right h2 (by omega)
  have e3 : (a * v) * y ≤ (u * b) * y := by
    rw [show (a * v) * y = a * y * v by rw [Int.mul_right_comm], show (u * b) * y = u * y * b by rw [Int.mul_right_comm]]
    rw [show x * b * v = x * v * b by rw [Int.mul_right_comm]] at e1
    omega
  exact Int.le_of_mul_le_mul_right e3 hy
theorem son1 (u : Nat) : strOfNums [((u : Nat) : Int)] = bs [UInt8.ofNat u] := rfl
theorem tdiv10n (n : Nat) : Int.tdiv (n : Int) 10 = ((n / 10 : Nat) : Int) := by rw [Int.tdiv_eq_ediv_of_nonneg (by omega)]; omega
theorem tmod10n (n : Nat) : Int.tmod (n : Int) 10 = ((n % 10 : Nat) : Int) := by rw [Int.tmod_eq_emod_of_nonneg (by omega)]; omega
theorem digits_le (u : Nat) (h : u ≤ 1000000000000) : (Lib.decDigits u).length ≤ 21 := by
  have := Lib.itoa_length_le (u : Int) (by omega) (by omega)
  rwa [Lib.itoa_nonneg] at this
theorem e_l1Num_k : ∀ (k n : Nat), n < 10 ^ k → n ≤ 1000000000000 → spec_l1Num.f (k + 1) (n : Int) = some (bs (Lib.decDigits n))
  | k, n, h, hb => by
    unfold spec_l1Num.f
    by_cases c : n < 10
    · have e : (wrap64 (48 + (n : Int))) % 256 = ((48 + n : Nat) : Int) := by unfold wrap64; omega
      rw [if_pos (by omega), e, son1, Lib.decDigits, dif_pos c]
    · cases k with
      | zero => simp at h; omega
      | succ k =>
        have e1 : wrap64 (Int.tdiv (n : Int) 10) = ((n / 10 : Nat) : Int) := by rw [tdiv10n]; unfold wrap64; omega
        have e2 : (wrap64 (48 + Int.tmod (n : Int) 10)) % 256 = ((48 + n % 10 : Nat) : Int) := by rw [tmod10n]; unfold wrap64; omega
        have h10 : n / 10 < 10 ^ k := by rw [Nat.pow_succ] at h; omega
        have hd := digits_le (n / 10) (by omega)
        rw [if_neg (by omega), e1, e_l1Num_k k (n / 10) h10 (by omega), e2]
        simp only [Option.bind_some]
        rw [son1, if_pos (by rw [bs_size, bs_size]; simp only [List.length_cons, List.length_nil]; omega), bs_append]
        conv => rhs; rw [Lib.decDigits, dif_neg c]
theorem e_l1Num (k n : Nat) (hk : 13 < k) (hn : n ≤ 1000000000) : spec_l1Num.f k (n : Int) = some (bs (Lib.decDigits n)) := by
  obtain ⟨q, rfl⟩ : ∃ q, k = q + 1 := ⟨k - 1, by omega⟩
  refine e_l1Num_k q n (Nat.lt_of_lt_of_le (show n < 10 ^ 13 by omega) (Nat.pow_le_pow_right (by omega) (by omega))) (by omega)
theorem e_l1Int (k : Nat) (n : Int) (hk : 13 < k) (h : -1000000000 ≤ n ∧ n ≤ 1000000000) : spec_l1Int.f k n = some (bs (Lib.itoa n)) := by
  unfold spec_l1Int.f
  by_cases c : n < 0
  · have e : wrap64 (-n) = ((n.natAbs : Nat) : Int) := by unfold wrap64; omega
    have hd := digits_le n.natAbs (by omega)
    rw [if_pos c, e, e_l1Num k _ hk (by omega)]
    simp only [Option.bind_some]
    rw [if_pos (by rw [bs_size]; omega)]
    unfold Lib.itoa
    rw [if_pos c]
    show some (bs [45] ++ bs _) = _
    rw [bs_append]
    rfl
  · obtain ⟨u, rfl⟩ : ∃ u : Nat, n = u := ⟨n.toNat, by omega⟩
    rw [if_neg c, e_l1Num k u hk (by omega), Lib.itoa_nonneg]
    rfl
theorem join_snoc (c : UInt8) (ps : List (List UInt8)) (q : List UInt8) (h : ps ≠ []) : Lib.join (ps ++ [q]) [c] = Lib.join ps [c] ++ ([c] ++ q) := by
  cases ps with
  | nil => exact absurd rfl h
  | cons y r =>
    rw [List.cons_append, Lib.join_cons, Lib.join_cons]
    simp [Lib.joinTail]
theorem wText_eq (l : List S37) : wText l = Lib.join (l.map fun x => j2 x.f0 x.f1 [58]) [44] := by
  unfold wText wTexts
  rw [List.map_map]
  rfl
theorem wText_succ (l : List S37) (i : Nat) (h : i < l.length) : wText (l.take (i + 1)) = (if i = 0 then [] else wText (l.take i) ++ [44]) ++ j2 (l.getD i z37).f0 (l.getD i z37).f1 [58] := by
  have e : l.getD i z37 = l[i] := by simp [List.getD_eq_getElem?_getD, h]
  rw [wText_eq, wText_eq, List.take_succ_eq_append_getElem h, List.map_append, e]
  by_cases c : i = 0
  · subst c
    rw [if_pos rfl]
    simp [Lib.join_one]
  · rw [if_neg c, List.map_cons, List.map_nil, join_snoc _ _ _ (by cases l with | nil => simp at h | cons a b => cases i with | zero => exact absurd rfl c | succ i => simp)]
    simp only [List.append_assoc]
theorem e_meText_l0 (l : List S37) (hl : l.length ≤ 8) (hx : ∀ x ∈ l, wOk x) : ∀ (n i k : Nat), i + n = l.length → n + 20 < k → spec_meText.l0 k (bs (wText (l.take i))) l (l.length : Int) (i : Int) = some (bs (wText l)) := by
  intro n
  induction n with
  | zero =>
    intro i k hi hk
    obtain ⟨k, rfl⟩ : ∃ q, k = q + 1 := ⟨k - 1, by omega⟩
    unfold spec_meText.l0
    rw [if_neg (by omega), show i = l.length by omega, List.take_length]
  | succ n ih =>
    intro i k hi hk
    obtain ⟨k, rfl⟩ : ∃ q, k = q + 1 := ⟨k - 1, by omega⟩
    have hok : wOk (l.getD i z37) := hx _ (by simp [List.getD_eq_getElem?_getD, show i < l.length by omega])
    have hs := wText_succ l i (by omega)
    have hw := wText_len (l.take i) (fun x h => hx x (List.mem_of_mem_take h))
    rw [List.length_take] at hw
    have hj := j2_len _ _ hok.1 hok.2 [58] (by simp)
    have hw64 : wrap64 ((i : Int) + 1) = ((i + 1 : Nat) : Int) := by unfold wrap64; omega
    have hrd : rd_T37 l (i : Int) = l.getD i z37 := by unfold rd_T37; simp
    have hn := ih (i + 1) k (by omega) (by omega)
    unfold spec_meText.l0
    have ht0 : i = 0 → wText (l.take i) = [] := by rintro rfl; rw [List.take_zero]; rfl
    generalize wText (l.take i) = tt at *
    rw [hrd, if_pos (by omega), if_pos (by omega), if_pos (by omega), e_l1Int k _ (by omega) hok.1, e_l1Int k _ (by omega) hok.2, hw64]
    simp only [Option.bind_some]
    rw [j2_eq] at hj hs
    simp only [List.length_append, List.length_cons, List.length_nil] at hj
    rw [hs] at hn
    have b58 : (⟨#[58]⟩ : ByteArray) = bs [58] := rfl
    have b44 : (⟨#[44]⟩ : ByteArray) = bs [44] := rfl
    by_cases c : i = 0
    · have hz := ht0 c
      subst hz
      rw [if_pos c] at hn
      rw [if_neg (by omega), if_pos (by rw [bs_size]; omega), b58, bs_append, bs_append, if_pos (by rw [bs_size, bs_size]; simp only [List.length_append, List.length_cons, List.length_nil]; omega), bs_append, if_pos (by rw [bs_size, bs_size]; simp only [List.length_append, List.length_cons, List.length_nil]; omega)]
      simpa using hn
    · rw [if_neg c] at hn
      rw [if_pos (by omega), if_pos (by rw [bs_size]; omega), if_pos (by rw [bs_size]; omega), b58, b44, bs_append, bs_append, bs_append, if_pos (by rw [bs_size, bs_size]; simp only [List.length_append, List.length_cons, List.length_nil]; omega), if_pos (by rw [bs_size, bs_size]; simp only [List.length_append, List.length_cons, List.length_nil]; omega), bs_append]
      simpa [List.append_assoc] using hn
theorem e_meText (k : Nat) (l : List S37) (hl : l.length ≤ 8) (hx : ∀ x ∈ l, wOk x) (hk : 100 < k) : spec_meText.f k l = some (bs (wText l)) := by
  have := e_meText_l0 l hl hx l.length 0 k (by omega) (by omega)
  unfold spec_meText.f
  rw [List.take_zero] at this
  exact this

theorem ws_ok (l : List S37) (h : ws l) : 1 ≤ l.length ∧ l.length ≤ 8 ∧ ∀ x ∈ l, wOk x := by
  obtain ⟨h1, h2⟩ := h
  refine ⟨by omega, by omega, fun x hx => ?_⟩
  have := h2 x hx
  unfold gk at this
  unfold wOk
  omega
theorem wt_all (m : List S37) (hm : m.length ≤ 1048576) (K : Nat) (hK : 2000000 < K) : ∃ (txt : ByteArray) (ok : Bool), spec_WalkersText.f K m = some (txt, ok) ∧
    ∀ (W : World) (A : Option Addr) (c : Nat), T1 W → Kd.C k37 W A m.length m → m.length ≤ c → Calls Tryd.prog 8 #[.slice A m.length c] W fun e w' => e = .returned (.tuple #[.string txt, .bool ok]) ∧ Below W.heap.size W w' := by
  have ha := e_AreWalkers m (by omega)
  by_cases c : ws m
  · obtain ⟨h1, h8, hx⟩ := ws_ok m c
    refine ⟨bs (wText m), true, ?_, fun W A cc hT hC hc => wtext.yes A cc m W hC hc h1 h8 hx (by rw [ha, decide_eq_true c]) hT⟩
    unfold spec_WalkersText.f
    rw [e_meAll K m (by omega) (by omega), e_meText K m h8 hx (by omega)]
    simp [c]
  · refine ⟨⟨#[]⟩, false, ?_, fun W A cc hT hC hc => wtext.no A cc m W hC hc (by rw [ha, decide_eq_false c])⟩
    unfold spec_WalkersText.f
    rw [e_meAll K m (by omega) (by omega)]
    simp [c]
theorem FnExactWalkersText_all (A0 : Option Addr) (c0 : Nat) (l0 : List S39) (w : World) (hr0 : Kd.C k39 w A0 l0.length l0) (hc0 : l0.length ≤ c0) (hm : l0.length ≤ maxLen) (_hw : ∀ x ∈ l0, (Lit.int .i64 x.f0).wf = true ∧ (Lit.int .i64 x.f1).wf = true) (ht : T1 w) :
    Calls Tryd.prog 3 #[.slice A0 l0.length c0] w fun e w' => e = .returned (.bool true) ∧ Below w.heap.size w w' := by
  have hsz := e_szWalkerS l0 hm
  by_cases h : (l0.length : Int) > 1048576
  · rw [if_pos h] at hsz
    exact lawWT.big A0 c0 l0 w hr0 hc0 hsz
  · rw [if_neg h] at hsz
    obtain ⟨N, hN⟩ : ∃ N, 99999997 ≤ N := ⟨99999997, by omega⟩
    obtain ⟨txt, ok, hS, hI⟩ := wt_all (l0.map toI) (by simp; omega) N (by omega)
    exact lawWT.calls N A0 c0 l0 w hr0 hc0 (by omega) _ (by omega) hsz (l0.map toI) (e_toWalkerS N l0 (by omega) (by omega)) txt ok hS hI (e_eqWalkerS N _ (by simp; omega) (by simp; omega)) ht

end Go.Proofs.YtajocgijmcbmnaaDoor.Pure
