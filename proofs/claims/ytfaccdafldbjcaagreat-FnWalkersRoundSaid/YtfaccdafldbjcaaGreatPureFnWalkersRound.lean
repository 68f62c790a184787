/- The pure statement of the law FnWalkersRound: what the program's function computes is what the reference's computes. -/
import Derived.Test.YtfaccdafldbjcaaGreatRoundA
namespace Go.Proofs.YtfaccdafldbjcaaGreat.Pure
open Go.RowKit Go.Proofs.YtfaccdafldbjcaaGreat.OFnWalkersRound Go.Proofs.YtfaccdafldbjcaaGreatW.PrintWords Go.Proofs.YtfaccdafldbjcaaGreatW.PrintLast Go.Proofs.YtfaccdafldbjcaaGreatW.PrintMore
set_option linter.unusedVariables false
set_option linter.unusedSimpArgs false
theorem w64 (n : Int) (h1 : -9223372036854775808 ≤ n) (h2 : n ≤ 9223372036854775807) : wrap64 n = n := by unfold wrap64; omega
theorem le_cases (a b c : Int) : (if a ≥ b then some (decide (a ≤ c)) else some false) = some (decide (b ≤ a ∧ a ≤ c)) := by
  by_cases h : b ≤ a <;> by_cases h' : a ≤ c <;> simp [h, h']
def gk (p s : Int) : Prop := -1000 ≤ p ∧ p ≤ 1000 ∧ -100 ≤ s ∧ s ≤ 100
instance (p s : Int) : Decidable (gk p s) := by unfold gk; infer_instance
theorem mul_bd (a b A B : Int) (h1 : 0 ≤ a) (h2 : a ≤ A) (h3 : 0 ≤ b) (h4 : b ≤ B) : 0 ≤ a * b ∧ a * b ≤ A * B :=
  ⟨Int.mul_nonneg h1 h3, Int.mul_le_mul h2 h4 h3 (by omega)⟩
theorem div_bd (x g : Int) (hg : 1 ≤ g) (hx : 0 ≤ x) : 0 ≤ x / g ∧ x / g ≤ x :=
  ⟨Int.ediv_nonneg hx (by omega), Int.ediv_le_self _ hx⟩
theorem e_within (a b c : Int) : impl_within.f a b c = some (decide (b ≤ a ∧ a ≤ c)) := by
  unfold impl_within.f; exact le_cases a b c
theorem e_l1In (a b c : Int) : spec_l1In.f a b c = some (decide (b ≤ a ∧ a ≤ c)) := by
  unfold spec_l1In.f; exact le_cases a b c
theorem e_iIsWalker (u d : Int) : impl_IsWalker.f u d = some (decide (gk u d)) := by
  unfold impl_IsWalker.f; simp only [e_within, Option.bind_some]
  by_cases h : -1000 ≤ u ∧ u ≤ 1000 <;> by_cases h' : -100 ≤ d ∧ d ≤ 100 <;> simp [gk, h, h'] <;> omega
theorem e_meGood (u d : Int) : spec_meGood.f u d = some (decide (gk u d)) := by
  unfold spec_meGood.f; simp only [e_l1In, Option.bind_some]
  by_cases h : -1000 ≤ u ∧ u ≤ 1000 <;> by_cases h' : -100 ≤ d ∧ d ≤ 100 <;> simp [gk, h, h'] <;> omega
theorem uniq (a b q r : Int) (hb : 0 < b) (e : b * q + r = a) (h0 : 0 ≤ r) (h1 : r < b) : a / b = q ∧ a % b = r :=
  (Int.ediv_emod_unique hb).mpr ⟨by rw [← e]; exact Int.add_comm _ _, h0, h1⟩
theorem tm_bd (a b : Int) (hb : 0 < b) : b * a.tdiv b + a.tmod b = a ∧ -b < a.tmod b ∧ a.tmod b < b :=
  ⟨Int.mul_tdiv_add_tmod a b, Int.lt_tmod_of_pos a hb, Int.tmod_lt_of_pos a hb⟩
theorem floor_is (a b : Int) (hb : 0 < b) : (if a.tmod b < 0 then a.tdiv b - 1 else a.tdiv b) = a / b := by
  obtain ⟨e, h0, h1⟩ := tm_bd a b hb
  split
  · have := uniq a b (a.tdiv b - 1) (a.tmod b + b) hb (by rw [Int.mul_sub]; omega) (by omega) (by omega)
    exact this.1.symm
  · have := uniq a b (a.tdiv b) (a.tmod b) hb e (by omega) h1
    exact this.1.symm
theorem mod_is (a b : Int) (hb : 0 < b) : (a.tmod b + b).tmod b = a % b := by
  obtain ⟨e, h0, h1⟩ := tm_bd a b hb
  rw [Int.tmod_eq_emod_of_nonneg (by omega), Int.add_emod_right]
  have h := Int.add_mul_emod_self_left (a.tmod b) b (a.tdiv b)
  rw [Int.add_comm, e] at h
  exact h.symm
theorem abs_mx (a : Int) : mx a (-a) = (a.natAbs : Int) := by unfold mx; split <;> omega
theorem gcd_pos (num den : Int) (h : den ≠ 0) : 0 < (Int.gcd num den : Int) := by
  have : 0 < Int.gcd num den := Int.gcd_pos_of_ne_zero_right _ h
  omega
theorem tdiv_ex (a g : Int) (h : g ∣ a) : a.tdiv g = a / g := Int.tdiv_eq_ediv_of_dvd h
def gt (a b : Int) : Prop := 0 ≤ a ∧ a ≤ 1000000 ∧ 1 ≤ b ∧ b ≤ 1000
instance (a b : Int) : Decidable (gt a b) := by unfold gt; infer_instance
def gr (a : Int) : Prop := 1 ≤ a ∧ a ≤ 1000
instance (a : Int) : Decidable (gr a) := by unfold gr; infer_instance
def lowN (num den : Int) : Int := (if den < 0 then -num else num) / (Int.gcd num den : Int)
def lowD (num den : Int) : Int := (if den < 0 then -den else den) / (Int.gcd num den : Int)
def meetV (p s p' s' : Int) : Int × Int × Bool := if p = p' then (0, 1, true) else if s = s' then (0, 0, false) else if lowN (p' - p) (s - s') < 0 then (0, 0, false) else (lowN (p' - p) (s - s'), lowD (p' - p) (s - s'), true)
def ringV (a p s p' s' : Int) : Int × Int := if s < s' then ((p - p') % a, s' - s) else ((p' - p) % a, s - s')
def ringV' (a p s p' s' : Int) : Int × Int := if s < s' then ((p - p') % a, s' - s) else ((p' - p) % a, s - s')
def rgV (a p s p' s' : Int) : Int × Int × Bool := if ((gr a ∧ gk p s) ∧ gk p' s') ∧ ¬ s = s' then (lowN a ((s - s').natAbs : Int), lowD a ((s - s').natAbs : Int), true) else (0, 0, false)
def crV (a p s p' s' t : Int) : Int × Bool := if (((gr a ∧ gk p s) ∧ gk p' s') ∧ ¬ s = s') ∧ 0 ≤ t ∧ t ≤ 1000 then (if t * (ringV a p s p' s').2 < (ringV a p s p' s').1 then 0 else (t * (ringV a p s p' s').2 - (ringV a p s p' s').1) / a + 1, true) else (0, false)
theorem div_abs (a g : Int) (hg : 1 ≤ g) (B : Int) (h : -B ≤ a ∧ a ≤ B) : -B ≤ a / g ∧ a / g ≤ B := by
  constructor
  · have : -B ≤ a / g ↔ -B * g ≤ a := Int.le_ediv_iff_mul_le (by omega)
    refine this.mpr ?_
    have hB : 0 ≤ B := by omega
    have := Int.mul_le_mul_of_nonneg_left hg hB
    rw [Int.neg_mul]; omega
  · rcases Int.lt_or_le a 0 with h' | h'
    · have : a / g < 0 ↔ a < 0 * g := Int.ediv_lt_iff_lt_mul (by omega)
      have := this.mpr (by omega)
      omega
    · have := Int.ediv_le_self g h'
      omega
theorem low_bd (num den B : Int) (hd : den ≠ 0) (h1 : -B ≤ num ∧ num ≤ B) (h2 : -B ≤ den ∧ den ≤ B) : (-B ≤ lowN num den ∧ lowN num den ≤ B) ∧ (1 ≤ lowD num den ∧ lowD num den ≤ B) := by
  have hg := gcd_pos num den hd
  refine ⟨?_, ?_⟩
  · unfold lowN; exact div_abs _ _ (by omega) B (by split <;> omega)
  · have h := div_abs (if den < 0 then -den else den) (Int.gcd num den : Int) (by omega) B (by split <;> omega)
    unfold lowD
    refine ⟨?_, h.2⟩
    have hd' : (Int.gcd num den : Int) ∣ (if den < 0 then -den else den) := by
      split
      · exact Int.dvd_neg.mpr (Int.gcd_dvd_right ..)
      · exact Int.gcd_dvd_right ..
    have hp : 0 < (if den < 0 then -den else den) := by split <;> omega
    have := Int.ediv_pos_of_pos_of_dvd hp (by omega) hd'
    omega
theorem lowN_neg (num den : Int) (hd : den ≠ 0) : lowN num den < 0 ↔ (if den < 0 then -num else num) < 0 := by
  have hg := gcd_pos num den hd
  unfold lowN
  have : (if den < 0 then -num else num) / (Int.gcd num den : Int) < 0 ↔ (if den < 0 then -num else num) < 0 * (Int.gcd num den : Int) := Int.ediv_lt_iff_lt_mul (by omega)
  rw [Int.zero_mul] at this
  exact this
theorem abs_mul (a b A B : Int) (h1 : -A ≤ a ∧ a ≤ A) (h2 : 0 ≤ b ∧ b ≤ B) : -(A * B) ≤ a * b ∧ a * b ≤ A * B := by
  have hA : 0 ≤ A := by omega
  have t : A * b ≤ A * B := Int.mul_le_mul_of_nonneg_left h2.2 hA
  have t1 : a * b ≤ A * b := Int.mul_le_mul_of_nonneg_right h1.2 h2.1
  have t2 : -A * b ≤ a * b := Int.mul_le_mul_of_nonneg_right h1.1 h2.1
  rw [Int.neg_mul] at t2
  omega
theorem e_absOf (a : Int) (h1 : -9000000000000000000 ≤ a) (h2 : a ≤ 9000000000000000000) : impl_absOf.f a = some (a.natAbs : Int) := by
  unfold impl_absOf.f; rw [w64 (-a) (by omega) (by omega), abs_mx]
theorem e_l1Most' (a b : Int) : spec_l1Most.f a b = some (max a b) := by
  unfold spec_l1Most.f; split <;> (congr 1; omega)
theorem e_l1Abs (a : Int) (h1 : -9000000000000000000 ≤ a) (h2 : a ≤ 9000000000000000000) : spec_l1Abs.f a = some (a.natAbs : Int) := by
  unfold spec_l1Abs.f; rw [w64 (-a) (by omega) (by omega), e_l1Most']; simp only [Option.bind_some]; congr 1; omega
theorem e_div_l0 : ∀ (b a : Nat) (k : Nat), b < k → impl_divisorOf.l0 k (a : Int) (b : Int) = some ((Nat.gcd a b : Nat) : Int) := by
  intro b
  induction b using Nat.strongRecOn with
  | ind b ih =>
    intro a k hk
    obtain ⟨k, rfl⟩ : ∃ m, k = m + 1 := ⟨k - 1, by omega⟩
    simp only [impl_divisorOf.l0]
    by_cases h : b = 0
    · subst h; simp
    · have hm := Nat.mod_lt a (show b > 0 by omega)
      rw [if_pos (by omega), if_neg (by omega), Int.tmod_eq_emod_of_nonneg (by omega), ← Int.natCast_emod, ih (a % b) hm b k (by omega)]
      congr 2
      rw [Nat.gcd_comm a b, Nat.gcd_rec b a, Nat.gcd_comm]
theorem e_divisorOf (k : Nat) (a b : Int) (ha : 0 ≤ a) (hb : 0 ≤ b) (hk : b < k) : impl_divisorOf.f k a b = some (Int.gcd a b : Int) := by
  unfold impl_divisorOf.f
  have := e_div_l0 b.natAbs a.natAbs k (by omega)
  rw [show ((a.natAbs : Nat) : Int) = a by omega, show ((b.natAbs : Nat) : Int) = b by omega] at this
  exact this
theorem e_lowest (k : Nat) (num den B : Int) (hd : den ≠ 0) (hB : B ≤ 4000000000000000000) (h1 : -B ≤ num ∧ num ≤ B) (h2 : -B ≤ den ∧ den ≤ B) (hk : B < k) : impl_lowest.f k num den = some (lowN num den, lowD num den) := by
  have hb := low_bd num den B hd h1 h2
  have hg := gcd_pos num den hd
  have d1 : (Int.gcd num den : Int) ∣ num := Int.gcd_dvd_left ..
  have d2 : (Int.gcd num den : Int) ∣ den := Int.gcd_dvd_right ..
  unfold impl_lowest.f
  by_cases c : den < 0
  · rw [if_pos c, w64 (-num) (by omega) (by omega), w64 (-den) (by omega) (by omega), e_absOf _ (by omega) (by omega)]
    simp only [Option.bind_some]
    rw [e_divisorOf k _ _ (by omega) (by omega) (by omega)]
    have e : Int.gcd (-den) (((-num).natAbs : Nat) : Int) = Int.gcd num den := by
      rw [Int.gcd_comm num den]; simp [Int.gcd]
    simp only [Option.bind_some]
    rw [e, if_neg (by omega), tdiv_ex _ _ (Int.dvd_neg.mpr d1), tdiv_ex _ _ (Int.dvd_neg.mpr d2)]
    unfold lowN lowD at hb ⊢
    rw [if_pos c, if_pos c] at hb
    rw [if_pos c, if_pos c, w64 _ (by omega) (by omega), w64 _ (by omega) (by omega)]
  · rw [if_neg c, e_absOf _ (by omega) (by omega)]
    simp only [Option.bind_some]
    rw [e_divisorOf k _ _ (by omega) (by omega) (by omega)]
    have e : Int.gcd den ((num.natAbs : Nat) : Int) = Int.gcd num den := by
      rw [Int.gcd_comm num den]; simp [Int.gcd]
    simp only [Option.bind_some]
    rw [e, if_neg (by omega), tdiv_ex _ _ d1, tdiv_ex _ _ d2]
    unfold lowN lowD at hb ⊢
    rw [if_neg c, if_neg c] at hb
    rw [if_neg c, if_neg c, w64 _ (by omega) (by omega), w64 _ (by omega) (by omega)]
theorem e_meLow_l0 (x y : Int) (B : Int) (hB : B ≤ 4000000000000000000) (h1 : -B ≤ x ∧ x ≤ B) (h2 : 1 ≤ y ∧ y ≤ B) : ∀ (b a : Nat) (k : Nat), b < k → (Nat.gcd a b) = Int.gcd x y → spec_meLow.l0 k x y (a : Int) (b : Int) = some (x / (Int.gcd x y : Int), y / (Int.gcd x y : Int)) := by
  intro b
  induction b using Nat.strongRecOn with
  | ind b ih =>
    intro a k hk hg
    obtain ⟨k, rfl⟩ : ∃ m, k = m + 1 := ⟨k - 1, by omega⟩
    simp only [spec_meLow.l0]
    by_cases h : b = 0
    · subst h
      have hp := gcd_pos x y (by omega)
      have d1 : (Int.gcd x y : Int) ∣ x := Int.gcd_dvd_left ..
      have d2 : (Int.gcd x y : Int) ∣ y := Int.gcd_dvd_right ..
      have b1 := div_abs x (Int.gcd x y : Int) (by omega) B h1
      have b2 := div_abs y (Int.gcd x y : Int) (by omega) B (by omega)
      rw [Nat.gcd_zero_right] at hg
      subst hg
      rw [if_neg (by omega), if_neg (by omega), tdiv_ex _ _ d1, tdiv_ex _ _ d2, w64 _ (by omega) (by omega), w64 _ (by omega) (by omega)]
    · have hm := Nat.mod_lt a (show b > 0 by omega)
      rw [if_pos (by omega), if_neg (by omega), Int.tmod_eq_emod_of_nonneg (by omega), ← Int.natCast_emod]
      refine ih (a % b) hm b k (by omega) ?_
      rw [← hg, Nat.gcd_comm a b, Nat.gcd_rec b a, Nat.gcd_comm]
theorem e_meLow (k : Nat) (num den B : Int) (hd : den ≠ 0) (hB : B ≤ 4000000000000000000) (h1 : -B ≤ num ∧ num ≤ B) (h2 : -B ≤ den ∧ den ≤ B) (hk : B + 1 < k) : spec_meLow.f k num den = some (lowN num den, lowD num den) := by
  obtain ⟨k, rfl⟩ : ∃ m, k = m + 1 := ⟨k - 1, by omega⟩
  unfold spec_meLow.f lowN lowD
  by_cases c : den < 0
  · rw [if_pos c, if_pos c, if_pos c, w64 (-num) (by omega) (by omega), w64 (-den) (by omega) (by omega)]
    simp only [spec_meLow.j0]
    rw [e_l1Abs _ (by omega) (by omega)]
    simp only [Option.bind_some]
    have := e_meLow_l0 (-num) (-den) B hB (by omega) (by omega) (-den).natAbs (-num).natAbs k (by omega) rfl
    rw [show (((-den).natAbs : Nat) : Int) = -den by omega] at this
    rw [this]; simp [Int.gcd]
  · rw [if_neg c, if_neg c, if_neg c]
    simp only [spec_meLow.j0]
    rw [e_l1Abs _ (by omega) (by omega)]
    simp only [Option.bind_some]
    have := e_meLow_l0 num den B hB (by omega) (by omega) den.natAbs num.natAbs k (by omega) rfl
    rw [show ((den.natAbs : Nat) : Int) = den by omega] at this
    rw [this]
theorem e_isTime (a b : Int) : impl_isTime.f a b = some (decide (gt a b)) := by
  unfold impl_isTime.f; simp only [e_within, Option.bind_some]
  by_cases h : 0 ≤ a ∧ a ≤ 1000000 <;> by_cases h' : 1 ≤ b ∧ b ≤ 1000 <;> simp [gt, h, h'] <;> omega
theorem e_meTime (a b : Int) : spec_meTime.f a b = some (decide (gt a b)) := by
  unfold spec_meTime.f; simp only [e_l1In, Option.bind_some]
  by_cases h : 0 ≤ a ∧ a ≤ 1000000 <;> by_cases h' : 1 ≤ b ∧ b ≤ 1000 <;> simp [gt, h, h'] <;> omega
theorem e_isRing (a : Int) : impl_isRing.f a = some (decide (gr a)) := by
  unfold impl_isRing.f; simp only [e_within, Option.bind_some]; rfl
theorem e_meRing (a p s p' s' : Int) : spec_meRing.f a p s p' s' = some (decide ((gr a ∧ gk p s) ∧ gk p' s')) := by
  unfold spec_meRing.f; simp only [e_l1In, e_meGood, Option.bind_some]
  by_cases h : 1 ≤ a ∧ a ≤ 1000 <;> by_cases h' : gk p s <;> by_cases h2 : gk p' s' <;> simp [gr, h, h', h2] <;> omega
theorem e_meetingTime (k : Nat) (p s p' s' : Int) (g : gk p s) (g' : gk p' s') (hk : 10000 < k) : impl_meetingTime.f k p s p' s' = some (meetV p s p' s') := by
  unfold gk at g g'; unfold impl_meetingTime.f meetV
  by_cases h : p = p'
  · rw [if_pos h, if_pos h]
  · by_cases h2 : s = s'
    · rw [if_neg h, if_neg h, if_pos h2, if_pos h2]
    · rw [if_neg h, if_neg h, if_neg h2, if_neg h2, w64 _ (by omega) (by omega), w64 _ (by omega) (by omega), e_lowest k _ _ 2000 (by omega) (by omega) (by omega) (by omega) (by omega)]
      simp only [Option.bind_some]
      split <;> rfl
theorem e_meMeet (k : Nat) (p s p' s' : Int) (g : gk p s) (g' : gk p' s') (hk : 10000 < k) : spec_meMeet.f k p s p' s' = some (meetV p s p' s') := by
  unfold gk at g g'; unfold spec_meMeet.f meetV
  rw [w64 (p' - p) (by omega) (by omega), w64 (s - s') (by omega) (by omega)]
  by_cases h : p = p'
  · rw [if_pos (by omega), if_pos h]
  · by_cases h2 : s = s'
    · rw [if_neg (by omega), if_neg h, if_pos (by omega), if_pos h2]
    · have hn := lowN_neg (p' - p) (s - s') (by omega)
      rw [if_neg (by omega), if_neg h, if_neg (by omega), if_neg h2]
      by_cases c : lowN (p' - p) (s - s') < 0
      · have := hn.mp c
        rw [if_pos c, if_pos]
        by_cases a : p' - p > 0 <;> by_cases b : s - s' > 0 <;> simp [a, b] <;> (split at this <;> omega)
      · have := fun z => c (hn.mpr z)
        rw [if_neg c, if_neg, e_meLow k _ _ 2000 (by omega) (by omega) (by omega) (by omega) (by omega)]
        · rfl
        · by_cases a : p' - p > 0 <;> by_cases b : s - s' > 0 <;> simp [a, b] <;> (split at this <;> omega)
theorem meet_bd (p s p' s' : Int) (g : gk p s) (g' : gk p' s') (h : (meetV p s p' s').2.2 = true) : (0 ≤ (meetV p s p' s').1 ∧ (meetV p s p' s').1 ≤ 2000) ∧ (1 ≤ (meetV p s p' s').2.1 ∧ (meetV p s p' s').2.1 ≤ 200) := by
  unfold gk at g g'; unfold meetV at h ⊢
  by_cases c : p = p'
  · rw [if_pos c]; simp
  · by_cases c2 : s = s'
    · rw [if_neg c, if_pos c2] at h; simp at h
    · by_cases c3 : lowN (p' - p) (s - s') < 0
      · rw [if_neg c, if_neg c2, if_pos c3] at h; simp at h
      · rw [if_neg c, if_neg c2, if_neg c3]
        have b := low_bd (p' - p) (s - s') 2000 (by omega) (by omega) (by omega)
        have hd : lowD (p' - p) (s - s') ≤ 200 := by
          have hg := gcd_pos (p' - p) (s - s') (by omega)
          have := div_abs (if s - s' < 0 then -(s - s') else s - s') (Int.gcd (p' - p) (s - s') : Int) (by omega) 200 (by split <;> omega)
          unfold lowD; exact this.2
        simp only; omega
theorem e_floorDiv (a b : Int) (hb : 0 < b) (B : Int) (hB : B ≤ 4000000000000000000) (h : -B ≤ a ∧ a ≤ B) : impl_floorDiv.f a b = some (a / b) ∧ (-B ≤ a / b ∧ a / b ≤ B) := by
  have q := div_abs a b (by omega) B h
  have f := floor_is a b hb
  unfold impl_floorDiv.f
  rw [if_neg (by omega)]
  refine ⟨?_, q⟩
  by_cases c : a.tmod b < 0
  · rw [if_pos c] at f
    rw [if_pos c, w64 (a.tdiv b) (by omega) (by omega), f, w64 _ (by omega) (by omega)]
  · rw [if_neg c] at f
    rw [if_neg c, f, w64 _ (by omega) (by omega)]
theorem e_around (a b : Int) (hb : 0 < b) (B : Int) (hB : B ≤ 2000000000000000000) (h : -B ≤ a ∧ a ≤ B) (hbB : b ≤ B) : impl_around.f a b = some (a % b) := by
  have q := e_floorDiv a b hb B (by omega) h
  unfold impl_around.f
  rw [q.1]; simp only [Option.bind_some]
  have e := Int.mul_ediv_add_emod a b
  have m0 := Int.emod_nonneg a (show b ≠ 0 by omega)
  have m1 := Int.emod_lt_of_pos a hb
  rw [w64 (b * (a / b)) (by omega) (by omega), w64 _ (by omega) (by omega)]
  congr 1; omega
theorem e_meMod (a b : Int) (hb : 0 < b) (hB : b ≤ 2000000000000000000) : spec_meMod.f a b = some (a % b) := by
  have t := tm_bd a b hb
  unfold spec_meMod.f
  rw [if_neg (by omega), w64 _ (by omega) (by omega), mod_is a b hb]
theorem e_ringGap (a p s p' s' : Int) (ga : gr a) (g : gk p s) (g' : gk p' s') : impl_ringGap.f a p s p' s' = some (ringV a p s p' s') := by
  unfold gr at ga; unfold gk at g g'; unfold impl_ringGap.f ringV
  by_cases c : s < s'
  · rw [if_pos c, if_pos c, w64 (p - p') (by omega) (by omega), e_around _ _ (by omega) 10000 (by omega) (by omega) (by omega), w64 _ (by omega) (by omega)]; rfl
  · rw [if_neg c, if_neg c, w64 (p' - p) (by omega) (by omega), e_around _ _ (by omega) 10000 (by omega) (by omega) (by omega), w64 _ (by omega) (by omega)]; rfl
theorem ring_bd (a p s p' s' : Int) (ga : gr a) (g : gk p s) (g' : gk p' s') : (0 ≤ (ringV a p s p' s').1 ∧ (ringV a p s p' s').1 < a) ∧ (0 ≤ (ringV a p s p' s').2 ∧ (ringV a p s p' s').2 ≤ 200) ∧ ((ringV a p s p' s').2 = 0 ↔ s = s') := by
  unfold gr at ga; unfold gk at g g'; unfold ringV
  split
  · have m0 := Int.emod_nonneg (p - p') (show a ≠ 0 by omega)
    have m1 := Int.emod_lt_of_pos (p - p') (show 0 < a by omega)
    simp only; omega
  · have m0 := Int.emod_nonneg (p' - p) (show a ≠ 0 by omega)
    have m1 := Int.emod_lt_of_pos (p' - p) (show 0 < a by omega)
    simp only; omega
theorem e_meAhead (a p s p' s' : Int) (ga : gr a) (g : gk p s) (g' : gk p' s') : spec_meAhead.f a p s p' s' = some (ringV' a p s p' s') := by
  unfold gr at ga; unfold gk at g g'; unfold spec_meAhead.f ringV'
  by_cases c : s < s'
  · rw [if_pos c, if_pos c, w64 (p - p') (by omega) (by omega), e_meMod _ _ (by omega) (by omega), w64 _ (by omega) (by omega)]; rfl
  · rw [if_neg c, if_neg c, w64 (p' - p) (by omega) (by omega), e_meMod _ _ (by omega) (by omega), w64 _ (by omega) (by omega)]; rfl
theorem e_iRingGap (k : Nat) (a p s p' s' : Int) (hk : 10000 < k) : impl_RingGap.f k a p s p' s' = some (rgV a p s p' s') := by
  obtain ⟨k, rfl⟩ : ∃ m, k = m + 1 := ⟨k - 1, by omega⟩
  unfold impl_RingGap.f rgV; rw [e_isRing, e_iIsWalker, e_iIsWalker]; simp only [Option.bind_some, decide_eq_true_eq, impl_RingGap.j0]
  by_cases h0 : gr a <;> by_cases h : gk p s <;> by_cases h' : gk p' s' <;> by_cases c : s = s' <;> simp [h0, h, h', c]
  have t := h0; unfold gr at t; have g := h; have g' := h'; unfold gk at g g'
  rw [w64 _ (by omega) (by omega), e_absOf _ (by omega) (by omega)]; simp only [Option.bind_some]
  rw [e_lowest k _ _ 1000 (by omega) (by omega) (by omega) (by omega) (by omega)]; simp
theorem e_sRingGap (k : Nat) (a p s p' s' : Int) (hk : 10000 < k) : spec_RingGap.f k a p s p' s' = some (rgV a p s p' s') := by
  obtain ⟨k, rfl⟩ : ∃ m, k = m + 1 := ⟨k - 1, by omega⟩
  unfold spec_RingGap.f rgV; rw [e_meRing]; simp only [Option.bind_some, decide_eq_true_eq, spec_RingGap.j0]
  by_cases h0 : gr a <;> by_cases h : gk p s <;> by_cases h' : gk p' s' <;> by_cases c : s = s' <;> simp [h0, h, h', c]
  rw [e_meAhead a p s p' s' h0 h h']; simp only [Option.bind_some]
  have t := h0; unfold gr at t; have g := h; have g' := h'; unfold gk at g g'
  have e : (ringV' a p s p' s').2 = ((s - s').natAbs : Int) := by unfold ringV'; split <;> simp only <;> omega
  rw [e, e_meLow k _ _ 1000 (by omega) (by omega) (by omega) (by omega) (by omega)]; simp
theorem e_iCountRing (k : Nat) (a p s p' s' t : Int) (hk : 10 < k) : impl_CountRingMeetings.f k a p s p' s' t = some (crV a p s p' s' t) := by
  obtain ⟨k, rfl⟩ : ∃ m, k = m + 1 := ⟨k - 1, by omega⟩
  unfold impl_CountRingMeetings.f crV; rw [e_isRing, e_iIsWalker, e_iIsWalker, e_within]; simp only [Option.bind_some, decide_eq_true_eq, impl_CountRingMeetings.j0]
  by_cases h0 : gr a <;> by_cases h : gk p s <;> by_cases h' : gk p' s' <;> by_cases c : s = s' <;> by_cases c2 : 0 ≤ t ∧ t ≤ 1000 <;> simp [h0, h, h', c, c2]
  rw [e_ringGap a p s p' s' h0 h h']; simp only [Option.bind_some]
  have b := ring_bd a p s p' s' h0 h h'
  have z := h0; unfold gr at z
  have m := mul_bd t (ringV a p s p' s').2 1000 200 (by omega) (by omega) (by omega) (by omega)
  rw [w64 (t * _) (by omega) (by omega)]
  by_cases d : t * (ringV a p s p' s').2 < (ringV a p s p' s').1
  · rw [if_pos d, if_pos d]
  · have q := div_bd (t * (ringV a p s p' s').2 - (ringV a p s p' s').1) a (by omega) (by omega)
    rw [if_neg d, if_neg d, if_neg (by omega), w64 (t * _ - _) (by omega) (by omega), Int.tdiv_eq_ediv_of_nonneg (by omega), w64 (_ / a) (by omega) (by omega), w64 _ (by omega) (by omega)]
theorem e_sCountRing (k : Nat) (a p s p' s' t : Int) (hk : 10 < k) : spec_CountRingMeetings.f k a p s p' s' t = some (crV a p s p' s' t) := by
  obtain ⟨k, rfl⟩ : ∃ m, k = m + 1 := ⟨k - 1, by omega⟩
  unfold spec_CountRingMeetings.f crV; rw [e_meRing, e_l1In]; simp only [Option.bind_some, decide_eq_true_eq, spec_CountRingMeetings.j0]
  by_cases h0 : gr a <;> by_cases h : gk p s <;> by_cases h' : gk p' s' <;> by_cases c : s = s' <;> by_cases c2 : 0 ≤ t ∧ t ≤ 1000 <;> simp [h0, h, h', c, c2]
  rw [e_meAhead a p s p' s' h0 h h', show ringV' a p s p' s' = ringV a p s p' s' from rfl]; simp only [Option.bind_some]
  have b := ring_bd a p s p' s' h0 h h'
  have z := h0; unfold gr at z
  have m := mul_bd t (ringV a p s p' s').2 1000 200 (by omega) (by omega) (by omega) (by omega)
  rw [w64 (t * _) (by omega) (by omega)]
  by_cases d : t * (ringV a p s p' s').2 < (ringV a p s p' s').1
  · rw [if_pos (show (ringV a p s p' s').1 > t * (ringV a p s p' s').2 from d), if_pos d]
  · have q := div_bd (t * (ringV a p s p' s').2 - (ringV a p s p' s').1) a (by omega) (by omega)
    rw [if_neg (show ¬ (ringV a p s p' s').1 > t * (ringV a p s p' s').2 from d), if_neg d, if_neg (by omega), w64 (t * _ - _) (by omega) (by omega), Int.tdiv_eq_ediv_of_nonneg (by omega), w64 (_ / a) (by omega) (by omega), w64 _ (by omega) (by omega)]

theorem round1 {k n : Nat} (h : n < k) : ∃ m, k = m + 1 ∧ n ≤ m := ⟨k - 1, by omega, by omega⟩
def ws (l : List S25) : Prop := (1 ≤ (l.length : Int) ∧ (l.length : Int) ≤ 8) ∧ ∀ x ∈ l, gk x.f0 x.f1
instance (l : List S25) : Decidable (ws l) := by unfold ws; infer_instance
theorem drop_consS (l : List S25) (i : Nat) (h : i < l.length) : l.drop i = l.getD i z25 :: l.drop (i + 1) := by
  rw [List.drop_eq_getElem_cons h]; simp [List.getD_eq_getElem?_getD, h]
theorem rdS (l : List S25) (i : Nat) : je l (i : Int) = l.getD i z25 := by unfold je; simp
theorem e_meAll_l0 (l : List S25) (hl : (l.length : Int) ≤ 9000000000000000000) : ∀ (n i k : Nat), i + n = l.length → n < k → spec_meAll.l0 k l (l.length : Int) (i : Int) = some (decide (∀ x ∈ l.drop i, gk x.f0 x.f1)) := by
  intro n
  induction n with
  | zero =>
    intro i k hi hk
    obtain ⟨k, rfl, hk⟩ := round1 hk
    simp only [spec_meAll.l0]
    rw [if_neg (by omega), List.drop_eq_nil_of_le (by omega)]; simp
  | succ n ih =>
    intro i k hi' hk
    obtain ⟨k, rfl, hk⟩ := round1 hk
    simp only [spec_meAll.l0]
    rw [if_pos (by omega), if_pos (by omega), if_pos (by omega), rdS, e_meGood, drop_consS l i (by omega), w64 _ (by omega) (by omega)]
    have e : ((i : Int) + 1) = ((i + 1 : Nat) : Int) := by omega
    rw [e, ih (i + 1) k (by omega) (by omega)]
    simp only [Option.bind_some, decide_eq_true_eq, List.forall_mem_cons]
    by_cases h : gk (l.getD i z25).f0 (l.getD i z25).f1
    · rw [if_pos h]; congr 1; exact decide_eq_decide.mpr ⟨fun z => ⟨h, z⟩, fun z => z.2⟩
    · rw [if_neg h]; congr 1; symm; rw [decide_eq_false_iff_not]; exact fun z => h z.1
theorem e_meAll (k : Nat) (l : List S25) (hl : (l.length : Int) ≤ 9000000000000000000) (hk : l.length < k) : spec_meAll.f k l = some (decide (ws l)) := by
  unfold spec_meAll.f ws
  have := e_meAll_l0 l hl l.length 0 k (by omega) hk
  rw [e_l1In]; simp only [Option.bind_some, decide_eq_true_eq]
  by_cases h : 1 ≤ (l.length : Int) ∧ (l.length : Int) ≤ 8
  · rw [if_pos h]; simp only [h, true_and, and_self]; exact this
  · rw [if_neg h]; simp only [h, false_and, decide_false]
theorem e_AreWalkers (l : List S25) (hl : (l.length : Int) ≤ 9000000000000000000) : impl_AreWalkers.f l = some (decide (ws l)) := by
  unfold impl_AreWalkers.f ws; rw [if_pos hl]
  congr 1
  rw [Bool.eq_iff_iff]
  simp only [Bool.and_eq_true, decide_eq_true_eq, List.all_eq_true, impl_AreWalkers.q, gk]
  exact decide_eq_true_iff.symm
def rtV (a p s p' s' : Int) : Int × Int × Bool := if (gr a ∧ gk p s) ∧ gk p' s' then (if (ringV a p s p' s').1 = 0 then (0, 1, true) else if (ringV a p s p' s').2 = 0 then (0, 0, false) else (lowN (ringV a p s p' s').1 (ringV a p s p' s').2, lowD (ringV a p s p' s').1 (ringV a p s p' s').2, true)) else (0, 0, false)
theorem low_zero (den : Int) (h : 0 < den) : lowN 0 den = 0 ∧ lowD 0 den = 1 := by
  unfold lowN lowD
  have e : (Int.gcd 0 den : Int) = den := by rw [Int.gcd_zero_left]; omega
  rw [e, if_neg (by omega), if_neg (by omega)]
  exact ⟨Int.zero_ediv _, Int.ediv_self (by omega)⟩
theorem e_iRingTime (k : Nat) (a p s p' s' : Int) (hk : 10000 < k) : impl_RingTime.f k a p s p' s' = some (rtV a p s p' s') := by
  obtain ⟨k, rfl⟩ : ∃ m, k = m + 2 := ⟨k - 2, by omega⟩
  unfold impl_RingTime.f rtV; rw [e_isRing, e_iIsWalker, e_iIsWalker]; simp only [Option.bind_some, decide_eq_true_eq, impl_RingTime.j0]
  by_cases h0 : gr a <;> by_cases h : gk p s <;> by_cases h' : gk p' s' <;> simp [h0, h, h']
  rw [e_ringGap a p s p' s' h0 h h']; simp only [Option.bind_some]
  have b := ring_bd a p s p' s' h0 h h'
  have t := h0; unfold gr at t
  generalize (ringV a p s p' s') = v at *
  by_cases c2 : v.2 = 0
  · rw [if_pos c2]
    by_cases c1 : v.1 = 0
    · have e : ¬ v.1 > 0 := by omega
      simp [impl_RingTime.j1, c1, c2]
    · have e : v.1 > 0 := by omega
      simp [impl_RingTime.j1, c1, c2, e]
  · rw [if_neg c2, if_neg c2]
    simp only [impl_RingTime.j1, Bool.false_eq_true, if_false]
    rw [if_neg c2, e_lowest k _ _ 1000 (by omega) (by omega) (by omega) (by omega) (by omega)]
    simp only [Option.bind_some]
    by_cases c1 : v.1 = 0
    · have z := low_zero v.2 (by omega)
      rw [if_pos c1, c1, z.1, z.2]
    · rw [if_neg c1]
theorem e_sRingTime (k : Nat) (a p s p' s' : Int) (hk : 10000 < k) : spec_RingTime.f k a p s p' s' = some (rtV a p s p' s') := by
  unfold spec_RingTime.f rtV; rw [e_meRing]; simp only [Option.bind_some, decide_eq_true_eq]
  by_cases h0 : gr a <;> by_cases h : gk p s <;> by_cases h' : gk p' s' <;> simp [h0, h, h']
  rw [e_meAhead a p s p' s' h0 h h', show ringV' a p s p' s' = ringV a p s p' s' from rfl]; simp only [Option.bind_some]
  have b := ring_bd a p s p' s' h0 h h'
  have t := h0; unfold gr at t
  generalize (ringV a p s p' s') = v at *
  by_cases c1 : v.1 = 0
  · rw [if_pos c1, if_pos c1]
  · rw [if_neg c1, if_neg c1]
    by_cases c2 : v.2 = 0
    · rw [if_pos c2, if_pos c2]
    · rw [if_neg c2, if_neg c2, e_meLow k _ _ 1000 (by omega) (by omega) (by omega) (by omega) (by omega)]
      rfl
def gcdL : List S25 → Nat → Nat
  | [], g => g
  | x :: xs, g => gcdL xs (Nat.gcd g x.f1.natAbs)
theorem gcd_le (g n : Nat) (hg : g ≤ 100) (hn : n ≤ 100) : Nat.gcd g n ≤ 100 := by
  by_cases h : g = 0
  · subst h; simp; exact hn
  · exact Nat.le_trans (Nat.gcd_le_left n (by omega)) hg
def asV (a : Int) (l : List S25) : Int × Int × Bool := if gr a ∧ ws l then (if gcdL l 0 = 0 then (0, 0, false) else (lowN a (gcdL l 0), lowD a (gcdL l 0), true)) else (0, 0, false)
theorem gcdL_le : ∀ (l : List S25) (g : Nat), g ≤ 100 → (∀ x ∈ l, gk x.f0 x.f1) → gcdL l g ≤ 100 := by
  intro l
  induction l with
  | nil => intro g h _; exact h
  | cons x xs ih =>
    intro g h hx
    have := hx x (by simp)
    unfold gk at this
    exact ih _ (gcd_le _ _ h (by omega)) (fun y hy => hx y (by simp [hy]))
theorem e_iAll_l0 (a : Int) (ga : gr a) (l : List S25) (hl : (l.length : Int) ≤ 8) (hx : ∀ x ∈ l, gk x.f0 x.f1) : ∀ (n i k g : Nat), i + n = l.length → g ≤ 100 → n + 2000 < k → impl_AllAtStart.l0 k a (g : Int) l (l.length : Int) (i : Int) = some (if gcdL (l.drop i) g = 0 then (0, 0, false) else (lowN a (gcdL (l.drop i) g : Nat), lowD a (gcdL (l.drop i) g : Nat), true)) := by
  have t := ga; unfold gr at t
  intro n
  induction n with
  | zero =>
    intro i k g hi hg hk
    obtain ⟨k, rfl, hk⟩ := round1 hk
    simp only [impl_AllAtStart.l0]
    rw [if_neg (by omega), List.drop_eq_nil_of_le (by omega)]
    rw [show gcdL [] g = g from rfl]
    by_cases c : g = 0
    · rw [if_pos (by omega), if_pos c]
    · rw [if_neg (by omega), if_neg c, e_lowest k _ _ 1000 (by omega) (by omega) (by omega) (by omega) (by omega)]; rfl
  | succ n ih =>
    intro i k g hi' hg hk
    obtain ⟨k, rfl, hk⟩ := round1 hk
    simp only [impl_AllAtStart.l0]
    have hm := hx (l.getD i z25) (by simp [List.getD_eq_getElem?_getD, show i < l.length by omega])
    unfold gk at hm
    rw [if_pos (by omega), if_pos (by omega), if_pos (by omega), rdS, e_absOf _ (by omega) (by omega)]
    simp only [Option.bind_some]
    rw [e_divisorOf k _ _ (by omega) (by omega) (by omega), drop_consS l i (by omega), w64 _ (by omega) (by omega)]
    rw [show gcdL (l.getD i z25 :: l.drop (i + 1)) g = gcdL (l.drop (i + 1)) (Nat.gcd g (l.getD i z25).f1.natAbs) from rfl]
    simp only [Option.bind_some]
    have e : (Int.gcd (g : Int) (((l.getD i z25).f1.natAbs : Nat) : Int)) = Nat.gcd g (l.getD i z25).f1.natAbs := by simp [Int.gcd]
    rw [e, show ((i : Int) + 1) = ((i + 1 : Nat) : Int) by omega]
    exact ih (i + 1) k _ (by omega) (gcd_le _ _ hg (by omega)) (by omega)
theorem e_iAllAtStart (k : Nat) (a : Int) (l : List S25) (hl : (l.length : Int) ≤ 9000000000000000000) (hk : 10000 < k) : impl_AllAtStart.f k a l = some (asV a l) := by
  obtain ⟨k, rfl⟩ : ∃ m, k = m + 1 := ⟨k - 1, by omega⟩
  unfold impl_AllAtStart.f asV; rw [e_isRing, e_AreWalkers l hl]; simp only [Option.bind_some, decide_eq_true_eq, impl_AllAtStart.j0]
  by_cases h0 : gr a <;> by_cases h : ws l <;> simp [h0, h]
  have := e_iAll_l0 a h0 l h.1.2 h.2 l.length 0 k 0 (by omega) (by omega) (by have := h.1.2; omega)
  simpa using this
theorem e_sAll_l1 (a : Int) (l : List S25) (i : Nat) (hi : i < 9000000000) : ∀ (b g K : Nat), b < K → ∃ k', K ≤ k' + b + 1 ∧ k' < K ∧ ∀ r, spec_AllAtStart.l0 k' a ((Nat.gcd g b : Nat) : Int) l (l.length : Int) ((i : Int) + 1) = some r → spec_AllAtStart.l1 K a (g : Int) (b : Int) l (l.length : Int) (i : Int) = some r := by
  intro b
  induction b using Nat.strongRecOn with
  | ind b ih =>
    intro g K hK
    obtain ⟨k, rfl⟩ : ∃ m, K = m + 1 := ⟨K - 1, by omega⟩
    simp only [spec_AllAtStart.l1]
    by_cases h : b = 0
    · subst h
      refine ⟨k, by omega, by omega, fun r hr => ?_⟩
      rw [if_neg (by omega), w64 _ (by omega) (by omega)]
      simpa using hr
    · have hm := Nat.mod_lt g (show b > 0 by omega)
      obtain ⟨k', h1, h2, h3⟩ := ih (g % b) hm b k (by omega)
      refine ⟨k', by omega, by omega, fun r hr => ?_⟩
      rw [if_pos (by omega), if_neg (by omega), Int.tmod_eq_emod_of_nonneg (by omega), ← Int.natCast_emod]
      refine h3 r ?_
      rw [Nat.gcd_comm g b, Nat.gcd_rec b g, Nat.gcd_comm] at hr
      exact hr
theorem e_sAll_l0 (a : Int) (ga : gr a) (l : List S25) (hl : (l.length : Int) ≤ 8) (hx : ∀ x ∈ l, gk x.f0 x.f1) : ∀ (n i k g : Nat), i + n = l.length → g ≤ 100 → n * 200 + 2000 < k → spec_AllAtStart.l0 k a (g : Int) l (l.length : Int) (i : Int) = some (if gcdL (l.drop i) g = 0 then (0, 0, false) else (lowN a (gcdL (l.drop i) g : Nat), lowD a (gcdL (l.drop i) g : Nat), true)) := by
  have t := ga; unfold gr at t
  intro n
  induction n with
  | zero =>
    intro i k g hi hg hk
    obtain ⟨k, rfl, hk⟩ := round1 hk
    simp only [spec_AllAtStart.l0]
    rw [if_neg (by omega), List.drop_eq_nil_of_le (by omega)]
    rw [show gcdL [] g = g from rfl]
    by_cases c : g = 0
    · rw [if_pos (by omega), if_pos c]
    · rw [if_neg (by omega), if_neg c, e_meLow k _ _ 1000 (by omega) (by omega) (by omega) (by omega) (by omega)]; rfl
  | succ n ih =>
    intro i k g hi' hg hk
    obtain ⟨k, rfl, hk⟩ := round1 hk
    simp only [spec_AllAtStart.l0]
    have hm := hx (l.getD i z25) (by simp [List.getD_eq_getElem?_getD, show i < l.length by omega])
    unfold gk at hm
    rw [if_pos (by omega), if_pos (by omega), if_pos (by omega), rdS, e_l1Abs _ (by omega) (by omega)]
    simp only [Option.bind_some]
    rw [drop_consS l i (by omega), show gcdL (l.getD i z25 :: l.drop (i + 1)) g = gcdL (l.drop (i + 1)) (Nat.gcd g (l.getD i z25).f1.natAbs) from rfl]
    obtain ⟨k', h1, h2, h3⟩ := e_sAll_l1 a l i (by omega) (l.getD i z25).f1.natAbs g k (by omega)
    refine h3 _ ?_
    rw [show ((i : Int) + 1) = ((i + 1 : Nat) : Int) by omega]
    exact ih (i + 1) k' _ (by omega) (gcd_le _ _ hg (by omega)) (by omega)
theorem e_sAllAtStart (k : Nat) (a : Int) (l : List S25) (hl : (l.length : Int) ≤ 9000000000000000000) (hk : 10000 < k) (hk2 : l.length + 10 < k) : spec_AllAtStart.f k a l = some (asV a l) := by
  obtain ⟨k, rfl⟩ : ∃ m, k = m + 1 := ⟨k - 1, by omega⟩
  unfold spec_AllAtStart.f asV; rw [e_l1In, e_meAll _ l hl (by omega)]; simp only [Option.bind_some, decide_eq_true_eq, spec_AllAtStart.j0]
  have hga : (1 ≤ a ∧ a ≤ 1000) ↔ gr a := Iff.rfl
  simp only [hga]
  by_cases h0 : gr a <;> by_cases h : ws l <;> simp [h0, h]
  have := e_sAll_l0 a h0 l h.1.2 h.2 l.length 0 k 0 (by omega) (by omega) (by have := h.1.2; omega)
  simpa using this

theorem evs {α : Type} {g f : Nat → Option α} {r : α} (K : Nat) (h : ∀ k, K ≤ k → g (k + 1) = f k) (k : Ev f r) : Ev g r := by
  obtain ⟨K', k⟩ := k
  refine ⟨max K K' + 1, fun n hn => ?_⟩
  obtain ⟨m, rfl⟩ : ∃ m, n = m + 1 := ⟨n - 1, by omega⟩
  rw [h m (by omega)]
  exact k m (by omega)
theorem low_neg (a b : Int) (hb : b ≠ 0) : lowN (-a) (-b) = lowN a b ∧ lowD (-a) (-b) = lowD a b := by
  have e : Int.gcd (-a) (-b) = Int.gcd a b := by simp [Int.gcd]
  unfold lowN lowD
  rw [e]
  by_cases h : b < 0
  · rw [if_pos h, if_pos h, if_neg (by omega), if_neg (by omega)]; exact ⟨rfl, rfl⟩
  · rw [if_neg h, if_neg h, if_pos (by omega), if_pos (by omega), Int.neg_neg, Int.neg_neg]; exact ⟨rfl, rfl⟩
theorem meet_sym (p s p' s' : Int) : meetV p s p' s' = meetV p' s' p s := by
  unfold meetV
  by_cases h : p = p'
  · rw [if_pos h, if_pos h.symm]
  · by_cases h2 : s = s'
    · rw [if_neg h, if_neg (fun z : p' = p => h z.symm), if_pos h2, if_pos h2.symm]
    · have q := low_neg (p' - p) (s - s') (by omega)
      rw [show -(p' - p) = p - p' by omega, show -(s - s') = s' - s by omega] at q
      rw [if_neg h, if_neg (fun z : p' = p => h z.symm), if_neg h2, if_neg (fun z : s' = s => h2 z.symm), q.1, q.2]
theorem low_cross (a b : Int) (hb : b ≠ 0) : lowN a b * b = lowD a b * a := by
  have hg := gcd_pos a b hb
  obtain ⟨u, hu⟩ : (Int.gcd a b : Int) ∣ a := Int.gcd_dvd_left ..
  obtain ⟨v, hv⟩ : (Int.gcd a b : Int) ∣ b := Int.gcd_dvd_right ..
  unfold lowN lowD
  generalize (Int.gcd a b : Int) = g at *
  subst hu hv
  by_cases h : g * v < 0
  · rw [if_pos h, if_pos h, show -(g * u) = g * (-u) by rw [Int.mul_neg], show -(g * v) = g * (-v) by rw [Int.mul_neg], Int.mul_ediv_cancel_left _ (by omega), Int.mul_ediv_cancel_left _ (by omega)]
    rw [Int.neg_mul, Int.neg_mul, Int.mul_left_comm u g v, Int.mul_left_comm v g u, Int.mul_comm u v]
  · rw [if_neg h, if_neg h, Int.mul_ediv_cancel_left _ (by omega), Int.mul_ediv_cancel_left _ (by omega)]
    rw [Int.mul_left_comm u g v, Int.mul_left_comm v g u, Int.mul_comm u v]
/-- Where they meet: the time times the difference of speeds is the gap. -/
theorem meet_cross (p s p' s' : Int) (h : (meetV p s p' s').2.2 = true) (hp : p ≠ p') : (meetV p s p' s').1 * (s - s') = (meetV p s p' s').2.1 * (p' - p) ∧ s ≠ s' := by
  unfold meetV at h ⊢
  rw [if_neg hp] at h ⊢
  by_cases h2 : s = s'
  · rw [if_pos h2] at h; simp at h
  · rw [if_neg h2] at h ⊢
    by_cases h3 : lowN (p' - p) (s - s') < 0
    · rw [if_pos h3] at h; simp at h
    · rw [if_neg h3]
      exact ⟨low_cross _ _ (by omega), h2⟩
/-- One that is faster and behind is met. -/
theorem meet_ok (p s p' s' : Int) (hp : p < p') (hs : s > s') : (meetV p s p' s').2.2 = true := by
  unfold meetV
  have q := lowN_neg (p' - p) (s - s') (by omega)
  rw [if_neg (by omega), if_neg (by omega), if_neg]
  intro z
  have := q.mp z
  rw [if_neg (by omega)] at this
  omega
/-- a/b ≤ x/y and x/y ≤ u/v. -/
theorem frac_trans (a b x y u v : Int) (hb : 0 < b) (hy : 0 < y) (hv : 0 < v) (h1 : a * y ≤ x * b) (h2 : x * v ≤ u * y) : a * v ≤ u * b := by
  have e1 : a * y * v ≤ x * b * v := Int.mul_le_mul_of_nonneg_right h1 (by omega)
  have e2 : x * v * b ≤ u * y * b := Int.mul_le_mul_of_nonneg_right h2 (by omega)
  have e3 : (a * v) * y ≤ (u * b) * y := by
    rw [show (a * v) * y = a * y * v by rw [Int.mul_right_comm], show (u * b) * y = u * y * b by rw [Int.mul_right_comm]]
    rw [show x * b * v = x * v * b by rw [Int.mul_right_comm]] at e1
    omega
  exact Int.le_of_mul_le_mul_right e3 hy
/-- The walker with an index. -/
def wk (l : List S25) (i : Nat) : S25 := l.getD i z25
def best0 (l : List S25) : Nat → Nat → Nat → Nat
  | 0, _, c => c
  | m + 1, i, c => if (wk l i).f0 > (wk l c).f0 ∨ (wk l i).f0 = (wk l c).f0 ∧ (wk l i).f1 > (wk l c).f1 then best0 l m (i + 1) i else best0 l m (i + 1) c
def tm (l : List S25) (i c : Nat) : Int × Int × Bool := meetV (wk l i).f0 (wk l i).f1 (wk l c).f0 (wk l c).f1
def cand (l : List S25) (c i : Nat) : Prop := (wk l i).f1 > (wk l c).f1 ∧ (tm l i c).2.2 = true
instance (l : List S25) (c i : Nat) : Decidable (cand l c i) := by unfold cand; infer_instance
def scanL (l : List S25) (c : Nat) : Nat → Nat → Option (Nat × Int × Int) → Option (Nat × Int × Int)
  | 0, _, st => st
  | m + 1, i, none => if cand l c i then scanL l c m (i + 1) (some (i, (tm l i c).1, (tm l i c).2.1)) else scanL l c m (i + 1) none
  | m + 1, i, some (nx, a, b) => if cand l c i ∧ ((tm l i c).1 * b < a * (tm l i c).2.1 ∨ (tm l i c).1 * b = a * (tm l i c).2.1 ∧ (wk l i).f1 > (wk l nx).f1) then scanL l c m (i + 1) (some (i, (tm l i c).1, (tm l i c).2.1)) else scanL l c m (i + 1) (some (nx, a, b))
def allk (l : List S25) : Prop := ∀ i, i < l.length → gk (wk l i).f0 (wk l i).f1
theorem best0_lt (l : List S25) : ∀ (m i c : Nat), i + m = l.length → c < l.length → best0 l m i c < l.length := by
  intro m; induction m with
  | zero => intro i c _ h; exact h
  | succ m ih =>
    intro i c h hc
    simp only [best0]
    split
    · exact ih (i + 1) i (by omega) (by omega)
    · exact ih (i + 1) c (by omega) hc
/-- The chosen one is nowhere behind. -/
def ahead (l : List S25) (c i : Nat) : Prop := (wk l i).f0 < (wk l c).f0 ∨ (wk l i).f0 = (wk l c).f0 ∧ (wk l i).f1 ≤ (wk l c).f1
theorem ahead_trans (l : List S25) (a b c : Nat) (h : ahead l a b) (h' : ahead l b c) : ahead l a c := by unfold ahead at *; omega
theorem best0_ahead (l : List S25) : ∀ (m i c : Nat), i + m = l.length → (∀ j, j < i → ahead l c j) → ∀ j, j < l.length → ahead l (best0 l m i c) j := by
  intro m; induction m with
  | zero => intro i c h hc j hj; exact hc j (by omega)
  | succ m ih =>
    intro i c h hc j hj
    simp only [best0]
    split
    · rename_i hb
      refine ih (i + 1) i (by omega) (fun q hq => ?_) j hj
      rcases Nat.lt_or_ge q i with z | z
      · refine ahead_trans l i c q ?_ (hc q z); unfold ahead; omega
      · have : q = i := by omega
        subst this; unfold ahead; omega
    · rename_i hb
      refine ih (i + 1) c (by omega) (fun q hq => ?_) j hj
      rcases Nat.lt_or_ge q i with z | z
      · exact hc q z
      · have : q = i := by omega
        subst this; unfold ahead; omega
/-- What a scan keeps: its best is a candidate, no candidate so far is sooner, and of those as soon none is faster. -/
def good (l : List S25) (c i : Nat) (st : Option (Nat × Int × Int)) : Prop :=
  match st with
  | none => ∀ j, j < i → ¬ cand l c j
  | some (nx, a, b) => nx < l.length ∧ cand l c nx ∧ a = (tm l nx c).1 ∧ b = (tm l nx c).2.1 ∧ ∀ j, j < i → cand l c j → a * (tm l j c).2.1 ≤ (tm l j c).1 * b ∧ (a * (tm l j c).2.1 = (tm l j c).1 * b → (wk l j).f1 ≤ (wk l nx).f1)
theorem mt_bd (l : List S25) (h : allk l) (c i : Nat) (hc : c < l.length) (hi : i < l.length) (k : (tm l i c).2.2 = true) : (0 ≤ (tm l i c).1 ∧ (tm l i c).1 ≤ 2000) ∧ (1 ≤ (tm l i c).2.1 ∧ (tm l i c).2.1 ≤ 200) :=
  meet_bd _ _ _ _ (h i hi) (h c hc) k
theorem scan_good (l : List S25) (h : allk l) (c : Nat) (hc : c < l.length) : ∀ (m i : Nat) (st : Option (Nat × Int × Int)), i + m = l.length → good l c i st → good l c l.length (scanL l c m i st) := by
  intro m; induction m with
  | zero => intro i st hi hg; simp only [Nat.add_zero] at hi; subst hi; cases st <;> exact hg
  | succ m ih =>
    intro i st hi hg
    cases st with
    | none =>
      simp only [scanL]
      by_cases k : cand l c i
      · rw [if_pos k]
        refine ih (i + 1) _ (by omega) ⟨by omega, k, rfl, rfl, fun j hj kj => ?_⟩
        rcases Nat.lt_or_ge j i with z | z
        · exact absurd kj (hg j z)
        · have : j = i := by omega
          subst this; exact ⟨Int.le_refl _, fun _ => Int.le_refl _⟩
      · rw [if_neg k]
        refine ih (i + 1) none (by omega) (fun j hj => ?_)
        rcases Nat.lt_or_ge j i with z | z
        · exact hg j z
        · have : j = i := by omega
          subst this; exact k
    | some st =>
      obtain ⟨nx, a, b⟩ := st
      obtain ⟨g1, g2, g3, g4, g5⟩ := hg
      have bn := mt_bd l h c nx hc g1 g2.2
      simp only [scanL]
      by_cases k : cand l c i ∧ ((tm l i c).1 * b < a * (tm l i c).2.1 ∨ (tm l i c).1 * b = a * (tm l i c).2.1 ∧ (wk l i).f1 > (wk l nx).f1)
      · rw [if_pos k]
        have bi := mt_bd l h c i hc (by omega) k.1.2
        refine ih (i + 1) _ (by omega) ⟨by omega, k.1, rfl, rfl, fun j hj kj => ?_⟩
        rcases Nat.lt_or_ge j i with z | z
        · have q := g5 j z kj
          have bj := mt_bd l h c j hc (by omega) kj.2
          have le := frac_trans (tm l i c).1 (tm l i c).2.1 a b (tm l j c).1 (tm l j c).2.1 (by omega) (by omega) (by omega) (by rcases k.2 with z | z <;> omega) q.1
          refine ⟨le, fun e => ?_⟩
          -- as soon as that: then as the elder best, which is no slower
          have r := frac_trans (tm l j c).1 (tm l j c).2.1 (tm l i c).1 (tm l i c).2.1 a b (by omega) (by omega) (by omega) (by omega) (by rcases k.2 with z | z <;> omega)
          have e2 := q.2 (by omega)
          have r2 := frac_trans a b (tm l j c).1 (tm l j c).2.1 (tm l i c).1 (tm l i c).2.1 (by omega) (by omega) (by omega) q.1 (by omega)
          rcases k.2 with z | z <;> omega
        · have : j = i := by omega
          subst this; exact ⟨Int.le_refl _, fun _ => Int.le_refl _⟩
      · rw [if_neg k]
        refine ih (i + 1) _ (by omega) ⟨g1, g2, g3, g4, fun j hj kj => ?_⟩
        rcases Nat.lt_or_ge j i with z | z
        · exact g5 j z kj
        · have : j = i := by omega
          subst this
          have n1 : ¬ ((tm l j c).1 * b < a * (tm l j c).2.1) := fun z => k ⟨kj, Or.inl z⟩
          refine ⟨by omega, fun e => ?_⟩
          rcases Int.lt_or_le (wk l nx).f1 (wk l j).f1 with z | z
          · exact absurd ⟨kj, Or.inr ⟨e.symm, z⟩⟩ k
          · exact z
/-- At the time num / den nobody is ahead of c, and of those beside it nobody is faster. -/
def inv (l : List S25) (c : Nat) (num den : Int) : Prop := ∀ i, i < l.length → (wk l i).f0 * den + (wk l i).f1 * num < (wk l c).f0 * den + (wk l c).f1 * num ∨ (wk l i).f0 * den + (wk l i).f1 * num = (wk l c).f0 * den + (wk l c).f1 * num ∧ (wk l i).f1 ≤ (wk l c).f1
theorem inv_start (l : List S25) (c : Nat) (h : ∀ j, j < l.length → ahead l c j) : inv l c 0 1 := by
  intro i hi
  have := h i hi
  unfold ahead at this
  simp only [Int.mul_one, Int.mul_zero, Int.add_zero]
  exact this
theorem inv_behind (l : List S25) (c : Nat) (num den : Int) (h0 : 0 ≤ num) (h1 : 1 ≤ den) (hv : inv l c num den) (i : Nat) (hi : i < l.length) (hs : (wk l i).f1 > (wk l c).f1) : ((wk l i).f1 - (wk l c).f1) * num < ((wk l c).f0 - (wk l i).f0) * den ∧ (wk l i).f0 < (wk l c).f0 := by
  have := hv i hi
  have e : ((wk l i).f1 - (wk l c).f1) * num < ((wk l c).f0 - (wk l i).f0) * den := by rw [Int.sub_mul, Int.sub_mul]; omega
  refine ⟨e, ?_⟩
  have p := Int.mul_nonneg (show 0 ≤ (wk l i).f1 - (wk l c).f1 by omega) h0
  rcases Int.lt_or_le (wk l i).f0 (wk l c).f0 with z | z
  · exact z
  · have := Int.mul_nonneg (show 0 ≤ (wk l i).f0 - (wk l c).f0 by omega) (show 0 ≤ den by omega)
    have e2 : ((wk l c).f0 - (wk l i).f0) * den = -(((wk l i).f0 - (wk l c).f0) * den) := by rw [Int.sub_mul, Int.sub_mul]; omega
    omega
theorem inv_later (l : List S25) (h : allk l) (c : Nat) (hc : c < l.length) (num den : Int) (h0 : 0 ≤ num) (h1 : 1 ≤ den) (hv : inv l c num den) (i : Nat) (hi : i < l.length) (k : cand l c i) : num * (tm l i c).2.1 < (tm l i c).1 * den := by
  obtain ⟨b1, b2⟩ := inv_behind l c num den h0 h1 hv i hi k.1
  have bd := mt_bd l h c i hc hi k.2
  have cr := (meet_cross (wk l i).f0 (wk l i).f1 (wk l c).f0 (wk l c).f1 k.2 (by omega)).1
  have e : (tm l i c).1 * ((wk l i).f1 - (wk l c).f1) = (tm l i c).2.1 * ((wk l c).f0 - (wk l i).f0) := cr
  have s0 : 0 < (wk l i).f1 - (wk l c).f1 := by have := k.1; omega
  have m := Int.mul_lt_mul_of_pos_left b1 (show 0 < (tm l i c).2.1 by omega)
  -- y (ds num) < y (dp den) = x ds den
  have m2 : ((wk l i).f1 - (wk l c).f1) * (num * (tm l i c).2.1) < ((wk l i).f1 - (wk l c).f1) * ((tm l i c).1 * den) := by
    have a1 : (tm l i c).2.1 * (((wk l i).f1 - (wk l c).f1) * num) = ((wk l i).f1 - (wk l c).f1) * (num * (tm l i c).2.1) := by rw [Int.mul_left_comm, Int.mul_comm (tm l i c).2.1 num]
    have a2 : (tm l i c).2.1 * (((wk l c).f0 - (wk l i).f0) * den) = ((wk l i).f1 - (wk l c).f1) * ((tm l i c).1 * den) := by rw [← Int.mul_assoc, ← e, Int.mul_comm (tm l i c).1, Int.mul_assoc]
    rw [← a1, ← a2]; exact m
  exact Int.lt_of_mul_lt_mul_left m2 (by omega)
theorem inv_step (l : List S25) (h : allk l) (c : Nat) (hc : c < l.length) (num den : Int) (h0 : 0 ≤ num) (h1 : 1 ≤ den) (hv : inv l c num den) (nx : Nat) (a b : Int) (hg : good l c l.length (some (nx, a, b))) : inv l nx a b := by
  obtain ⟨g1, g2, rfl, rfl, g5⟩ := hg
  have bn := mt_bd l h c nx hc g1 g2.2
  have later := inv_later l h c hc num den h0 h1 hv nx g1 g2
  have bh := inv_behind l c num den h0 h1 hv nx g1 g2.1
  have cr := (meet_cross (wk l nx).f0 (wk l nx).f1 (wk l c).f0 (wk l c).f1 g2.2 (by omega)).1
  have e : (tm l nx c).1 * ((wk l nx).f1 - (wk l c).f1) = (tm l nx c).2.1 * ((wk l c).f0 - (wk l nx).f0) := cr
  have eq : (wk l nx).f0 * (tm l nx c).2.1 + (wk l nx).f1 * (tm l nx c).1 = (wk l c).f0 * (tm l nx c).2.1 + (wk l c).f1 * (tm l nx c).1 := by
    rw [Int.mul_sub, Int.mul_sub, Int.mul_comm (tm l nx c).1, Int.mul_comm (tm l nx c).1, Int.mul_comm (tm l nx c).2.1, Int.mul_comm (tm l nx c).2.1] at e
    omega
  have sn := g2.1
  generalize (tm l nx c).1 = A at *
  generalize (tm l nx c).2.1 = B at *
  intro i hi
  rcases Int.lt_or_le (wk l c).f1 (wk l i).f1 with hs | hs
  · -- faster than c: met no sooner
    have bi := inv_behind l c num den h0 h1 hv i hi hs
    have ki : cand l c i := ⟨hs, meet_ok _ _ _ _ bi.2 hs⟩
    have q := g5 i hi ki
    have bd := mt_bd l h c i hc hi ki.2
    have cri := (meet_cross (wk l i).f0 (wk l i).f1 (wk l c).f0 (wk l c).f1 ki.2 (by omega)).1
    have ei : (tm l i c).1 * ((wk l i).f1 - (wk l c).f1) = (tm l i c).2.1 * ((wk l c).f0 - (wk l i).f0) := cri
    generalize (tm l i c).1 = X at *
    generalize (tm l i c).2.1 = Y at *
    have s0 : 0 < (wk l i).f1 - (wk l c).f1 := by omega
    generalize hd : (wk l i).f1 - (wk l c).f1 = D at *
    generalize hp : (wk l c).f0 - (wk l i).f0 = P at *
    -- D A ≤ P B, times Y
    have t1 : (D * A) * Y ≤ (P * B) * Y := by
      have z1 : (D * A) * Y = D * (A * Y) := Int.mul_assoc _ _ _
      have z2 : (P * B) * Y = D * (X * B) := by
        rw [Int.mul_right_comm, Int.mul_comm P Y, ← ei, Int.mul_comm X D, Int.mul_assoc]
      rw [z1, z2]
      exact Int.mul_le_mul_of_nonneg_left q.1 (by omega)
    have t2 : D * A ≤ P * B := Int.le_of_mul_le_mul_right t1 (by omega)
    have x1 : (wk l i).f1 * A - (wk l c).f1 * A = D * A := by rw [← Int.sub_mul, hd]
    have x2 : (wk l c).f0 * B - (wk l i).f0 * B = P * B := by rw [← Int.sub_mul, hp]
    by_cases te : D * A = P * B
    · right
      refine ⟨by omega, q.2 ?_⟩
      have z2 : (P * B) * Y = D * (X * B) := by
        rw [Int.mul_right_comm, Int.mul_comm P Y, ← ei, Int.mul_comm X D, Int.mul_assoc]
      rw [← te, Int.mul_assoc] at z2
      exact Int.eq_of_mul_eq_mul_left (by omega) z2
    · left; omega
  · -- not faster than c: behind it now, and later still
    have v := hv i hi
    generalize hd : (wk l c).f1 - (wk l i).f1 = D at *
    generalize hp : (wk l c).f0 - (wk l i).f0 = P at *
    have d0 : 0 ≤ D := by omega
    have x1 : (wk l c).f1 * num - (wk l i).f1 * num = D * num := by rw [← Int.sub_mul, hd]
    have x2 : (wk l c).f0 * den - (wk l i).f0 * den = P * den := by rw [← Int.sub_mul, hp]
    have x3 : (wk l c).f1 * A - (wk l i).f1 * A = D * A := by rw [← Int.sub_mul, hd]
    have x4 : (wk l c).f0 * B - (wk l i).f0 * B = P * B := by rw [← Int.sub_mul, hp]
    have t0 : 0 ≤ P * den + D * num := by omega
    have t1 : 0 ≤ (P * B + D * A) * den := by
      have y1 : D * (num * B) ≤ D * (A * den) := Int.mul_le_mul_of_nonneg_left (by omega) d0
      have y2 : 0 ≤ (P * den + D * num) * B := Int.mul_nonneg t0 (by omega)
      have y3 : (P * den + D * num) * B = P * B * den + D * (num * B) := by rw [Int.add_mul, Int.mul_right_comm, Int.mul_assoc D]
      have y4 : (P * B + D * A) * den = P * B * den + D * (A * den) := by rw [Int.add_mul, Int.mul_assoc D]
      omega
    have t2 : 0 ≤ P * B + D * A := by
      rcases Int.lt_or_le (P * B + D * A) 0 with z | z
      · have := Int.mul_neg_of_neg_of_pos z (show 0 < den by omega)
        omega
      · exact z
    rcases Int.lt_or_le 0 (P * B + D * A) with z | z
    · left; omega
    · right; exact ⟨by omega, by omega⟩
/-- How many are faster. -/
def fast (l : List S25) (s : Int) : Nat := (l.filter fun x => decide (s < x.f1)).length
theorem fast_lt (l : List S25) (s s' : Int) (h : s < s') (x : S25) (hx : x ∈ l) (hs : x.f1 = s') : fast l s' < fast l s := by
  unfold fast
  induction l with
  | nil => simp at hx
  | cons y ys ih =>
    have le : ∀ zs : List S25, (zs.filter fun x => decide (s' < x.f1)).length ≤ (zs.filter fun x => decide (s < x.f1)).length := by
      intro zs
      induction zs with
      | nil => simp
      | cons z zs ihz =>
        simp only [List.filter_cons]
        by_cases a : s' < z.f1 <;> by_cases b : s < z.f1 <;> simp [a, b] <;> omega
    rcases List.mem_cons.mp hx with e | e
    · subst e
      have := le ys
      simp only [List.filter_cons]
      rw [if_neg (by simp; omega), if_pos (by simp; omega)]
      simp only [List.length_cons]; omega
    · have := ih e
      have := le ys
      simp only [List.filter_cons]
      by_cases a : s' < y.f1 <;> by_cases b : s < y.f1 <;> simp [a, b] <;> omega
theorem fast_le (l : List S25) (s : Int) : fast l s ≤ l.length := by unfold fast; exact List.length_filter_le _ _
theorem wk_mem (l : List S25) (i : Nat) (h : i < l.length) : wk l i ∈ l := by unfold wk; simp [List.getD_eq_getElem?_getD, h]
theorem rdw (l : List S25) (i : Nat) : je l (i : Int) = wk l i := rdS l i
theorem i_l0 (l : List S25) (hl : (l.length : Int) ≤ 8) (r : List Int) : ∀ (m i c : Nat), i + m = l.length → c < l.length → Ev (fun k => impl_leadersFrom.l1 k l ((best0 l m i c : Nat) : Int) [((best0 l m i c : Nat) : Int)]) r → Ev (fun k => impl_leadersFrom.l0 k l (c : Int) l (l.length : Int) (i : Int)) r := by
  intro m; induction m with
  | zero =>
    intro i c hi hc he
    refine Ev.step (fun k => ?_) he
    simp only [impl_leadersFrom.l0, best0]; rw [if_neg (by omega)]
  | succ m ih =>
    intro i c hi hc he
    simp only [best0] at he
    by_cases k : (wk l i).f0 > (wk l c).f0 ∨ (wk l i).f0 = (wk l c).f0 ∧ (wk l i).f1 > (wk l c).f1
    · rw [if_pos k] at he
      refine Ev.step (fun q => ?_) (ih (i + 1) i (by omega) (by omega) he)
      simp only [impl_leadersFrom.l0, rdw]
      rw [if_pos (by omega), if_pos (by omega), if_pos (by omega), if_pos (by omega), if_pos (by omega), w64 _ (by omega) (by omega), show ((i : Int) + 1) = ((i + 1 : Nat) : Int) by omega]
      rcases k with k | k
      · rw [if_pos k]
      · rw [if_neg (by omega), if_pos k.1, if_pos k.2]
    · rw [if_neg k] at he
      refine Ev.step (fun q => ?_) (ih (i + 1) c (by omega) hc he)
      simp only [impl_leadersFrom.l0, rdw]
      rw [if_pos (by omega), if_pos (by omega), if_pos (by omega), if_pos (by omega), if_pos (by omega), w64 _ (by omega) (by omega), show ((i : Int) + 1) = ((i + 1 : Nat) : Int) by omega]
      rw [if_neg (fun z => k (Or.inl z))]
      by_cases e : (wk l i).f0 = (wk l c).f0
      · rw [if_pos e, if_neg (fun z => k (Or.inr ⟨e, z⟩))]
      · rw [if_neg e]
theorem s_l0 (l : List S25) (hl : (l.length : Int) ≤ 8) (r : List Int × Bool) : ∀ (m i c : Nat), i + m = l.length → c < l.length → Ev (fun k => spec_LeadersOf.l1 k l ((best0 l m i c : Nat) : Int) [((best0 l m i c : Nat) : Int)] 0 1 0) r → Ev (fun k => spec_LeadersOf.l0 k l (c : Int) l (l.length : Int) (i : Int)) r := by
  intro m; induction m with
  | zero =>
    intro i c hi hc he
    refine Ev.step (fun k => ?_) he
    simp only [spec_LeadersOf.l0, best0]; rw [if_neg (by omega)]
  | succ m ih =>
    intro i c hi hc he
    simp only [best0] at he
    by_cases k : (wk l i).f0 > (wk l c).f0 ∨ (wk l i).f0 = (wk l c).f0 ∧ (wk l i).f1 > (wk l c).f1
    · rw [if_pos k] at he
      refine Ev.step (fun q => ?_) (ih (i + 1) i (by omega) (by omega) he)
      simp only [spec_LeadersOf.l0, rdw]
      rw [if_pos (by omega), if_pos (by omega), if_pos (by omega), if_pos (by omega), if_pos (by omega), w64 _ (by omega) (by omega), show ((i : Int) + 1) = ((i + 1 : Nat) : Int) by omega]
      rcases k with k | k
      · rw [if_pos k]
      · rw [if_neg (by omega), if_pos k.1, if_pos k.2]
    · rw [if_neg k] at he
      refine Ev.step (fun q => ?_) (ih (i + 1) c (by omega) hc he)
      simp only [spec_LeadersOf.l0, rdw]
      rw [if_pos (by omega), if_pos (by omega), if_pos (by omega), if_pos (by omega), if_pos (by omega), w64 _ (by omega) (by omega), show ((i : Int) + 1) = ((i + 1 : Nat) : Int) by omega]
      rw [if_neg (fun z => k (Or.inl z))]
      by_cases e : (wk l i).f0 = (wk l c).f0
      · rw [if_pos e, if_neg (fun z => k (Or.inr ⟨e, z⟩))]
      · rw [if_neg e]
/-- The state of a scan, as the two loops tell it: none is a next of -1, beside whatever numbers. -/
def isSt (st : Option (Nat × Int × Int)) (nx a b : Int) : Prop := match st with
  | none => nx = -1
  | some (n, x, y) => nx = (n : Int) ∧ a = x ∧ b = y
def stok (l : List S25) (st : Option (Nat × Int × Int)) : Prop := match st with
  | none => True
  | some (n, x, y) => n < l.length ∧ (0 ≤ x ∧ x ≤ 2000) ∧ 1 ≤ y ∧ y ≤ 200
theorem m4 (x y : Int) (hx : 0 ≤ x ∧ x ≤ 2000) (hy : 0 ≤ y ∧ y ≤ 200) : 0 ≤ x * y ∧ x * y ≤ 400000 := mul_bd x y 2000 200 hx.1 hx.2 hy.1 hy.2
theorem i_l2 (l : List S25) (h : allk l) (hl : (l.length : Int) ≤ 8) (c : Nat) (hc : c < l.length) (out : List Int) (ho : out.length ≤ 100) (r : List Int) : ∀ (m i : Nat) (st : Option (Nat × Int × Int)) (nx a b : Int), i + m = l.length → isSt st nx a b → stok l st →
    (match scanL l c m i st with | none => r = out | some (n, _, _) => Ev (fun k => impl_leadersFrom.l1 k l (n : Int) (out ++ [(n : Int)])) r) → Ev (fun k => impl_leadersFrom.l2 k l (c : Int) out nx a b l (l.length : Int) (i : Int)) r := by
  intro m; induction m with
  | zero =>
    intro i st nx a b hi hs hk he
    simp only [scanL] at he
    cases st with
    | none =>
      simp only [isSt] at hs
      subst hs
      refine Ev.step (f := fun _ => some r) (fun k => ?_) (Ev.now _)
      simp only [impl_leadersFrom.l2]; rw [if_neg (by omega), if_pos (by omega), he]
    | some st =>
      obtain ⟨n, x, y⟩ := st
      obtain ⟨rfl, rfl, rfl⟩ := hs
      refine Ev.step (fun k => ?_) he
      simp only [impl_leadersFrom.l2]; rw [if_neg (by omega), if_neg (by omega), if_pos (by omega)]
  | succ m ih =>
    intro i st nx a b hi hs hk he
    have gi := h i (by omega)
    have gc := h c hc
    have hstep : ∀ q, 10001 ≤ q → impl_leadersFrom.l2 (q + 1) l (c : Int) out nx a b l (l.length : Int) (i : Int) = (if (wk l i).f1 ≤ (wk l c).f1 then impl_leadersFrom.l2 q l (c : Int) out nx a b l (l.length : Int) ((i + 1 : Nat) : Int) else (if (tm l i c).2.2 = true then (if nx < 0 then (impl_leadersFrom.l2 q l (c : Int) out (i : Int) (tm l i c).1 (tm l i c).2.1 l (l.length : Int) ((i + 1 : Nat) : Int)) else (if (wrap64 ((wrap64 ((tm l i c).1 * b)) - (wrap64 (a * (tm l i c).2.1)))) < 0 then (impl_leadersFrom.l2 q l (c : Int) out (i : Int) (tm l i c).1 (tm l i c).2.1 l (l.length : Int) ((i + 1 : Nat) : Int)) else (if (wrap64 ((wrap64 ((tm l i c).1 * b)) - (wrap64 (a * (tm l i c).2.1)))) = 0 then (if 0 ≤ nx then (if nx < (l.length : Int) then (if (wk l i).f1 > (je l nx).f1 then (impl_leadersFrom.l2 q l (c : Int) out (i : Int) (tm l i c).1 (tm l i c).2.1 l (l.length : Int) ((i + 1 : Nat) : Int)) else (impl_leadersFrom.l2 q l (c : Int) out nx a b l (l.length : Int) ((i + 1 : Nat) : Int))) else none) else none) else (impl_leadersFrom.l2 q l (c : Int) out nx a b l (l.length : Int) ((i + 1 : Nat) : Int))))) else (impl_leadersFrom.l2 q l (c : Int) out nx a b l (l.length : Int) ((i + 1 : Nat) : Int)))) := by
      intro q hq
      simp only [impl_leadersFrom.l2, rdw]
      rw [if_pos (by omega), if_pos (by omega), if_pos (by omega), if_pos (by omega), if_pos (by omega), e_meetingTime q _ _ _ _ gi gc (by omega), w64 ((i : Int) + 1) (by omega) (by omega), show ((i : Int) + 1) = ((i + 1 : Nat) : Int) by omega]
      rfl
    by_cases k : cand l c i
    · have bi := mt_bd l h c i hc (by omega) k.2
      have ns : ¬ (wk l i).f1 ≤ (wk l c).f1 := by have := k.1; omega
      cases st with
      | none =>
        simp only [isSt] at hs
        simp only [scanL] at he
        rw [if_pos k] at he
        refine evs 10001 (fun q hq => ?_) (ih (i + 1) (some (i, (tm l i c).1, (tm l i c).2.1)) (i : Int) (tm l i c).1 (tm l i c).2.1 (by omega) ⟨rfl, rfl, rfl⟩ ⟨by omega, bi.1, bi.2.1, bi.2.2⟩ he)
        rw [hstep q hq, if_neg ns, if_pos k.2, if_pos (by omega)]
      | some st =>
        obtain ⟨n, x, y⟩ := st
        obtain ⟨rfl, rfl, rfl⟩ := hs
        obtain ⟨k1, k2, k3, k4⟩ := hk
        have p1 := m4 (tm l i c).1 b bi.1 ⟨by omega, k4⟩
        have p2 := m4 a (tm l i c).2.1 k2 ⟨by omega, bi.2.2⟩
        simp only [scanL] at he
        by_cases k5 : (tm l i c).1 * b < a * (tm l i c).2.1 ∨ (tm l i c).1 * b = a * (tm l i c).2.1 ∧ (wk l i).f1 > (wk l n).f1
        · rw [if_pos ⟨k, k5⟩] at he
          refine evs 10001 (fun q hq => ?_) (ih (i + 1) (some (i, (tm l i c).1, (tm l i c).2.1)) (i : Int) (tm l i c).1 (tm l i c).2.1 (by omega) ⟨rfl, rfl, rfl⟩ ⟨by omega, bi.1, bi.2.1, bi.2.2⟩ he)
          rw [hstep q hq, if_neg ns, if_pos k.2, if_neg (by omega), w64 ((tm l i c).1 * b) (by omega) (by omega), w64 (a * _) (by omega) (by omega), w64 _ (by omega) (by omega)]
          rcases k5 with z | z
          · rw [if_pos (by omega)]
          · rw [if_neg (by omega), if_pos (by omega), if_pos (by omega), if_pos (by omega), rdw, if_pos z.2]
        · rw [if_neg (fun z => k5 z.2)] at he
          refine evs 10001 (fun q hq => ?_) (ih (i + 1) (some (n, a, b)) (n : Int) a b (by omega) ⟨rfl, rfl, rfl⟩ ⟨k1, k2, k3, k4⟩ he)
          rw [hstep q hq, if_neg ns, if_pos k.2, if_neg (by omega), w64 ((tm l i c).1 * b) (by omega) (by omega), w64 (a * _) (by omega) (by omega), w64 _ (by omega) (by omega), if_neg (fun z => k5 (Or.inl (by omega)))]
          by_cases e : (tm l i c).1 * b - a * (tm l i c).2.1 = 0
          · rw [if_pos e, if_pos (by omega), if_pos (by omega), rdw, if_neg (fun z => k5 (Or.inr ⟨by omega, z⟩))]
          · rw [if_neg e]
    · have he' : (match scanL l c m (i + 1) st with | none => r = out | some (n, _, _) => Ev (fun k => impl_leadersFrom.l1 k l (n : Int) (out ++ [(n : Int)])) r) := by
        cases st with
        | none => simp only [scanL] at he; rw [if_neg k] at he; exact he
        | some st => obtain ⟨n, x, y⟩ := st; simp only [scanL] at he; rw [if_neg (fun z => k z.1)] at he; exact he
      refine evs 10001 (fun q hq => ?_) (ih (i + 1) st nx a b (by omega) hs hk he')
      rw [hstep q hq]
      by_cases z : (wk l i).f1 ≤ (wk l c).f1
      · rw [if_pos z]
      · rw [if_neg z, if_neg (fun z2 => k ⟨by omega, z2⟩)]
theorem s_l2 (l : List S25) (h : allk l) (hl : (l.length : Int) ≤ 8) (c : Nat) (hc : c < l.length) (out : List Int) (ho : out.length ≤ 100) (num den : Int) (n0 : 0 ≤ num ∧ num ≤ 2000) (d1 : 1 ≤ den ∧ den ≤ 200) (hv : inv l c num den) (t : Nat) (ht : t ≤ 100) (r : List Int × Bool) : ∀ (m i : Nat) (st : Option (Nat × Int × Int)) (nx a b : Int), i + m = l.length → isSt st nx a b → stok l st →
    (match scanL l c m i st with | none => r = (out, true) | some (n, x, y) => Ev (fun k => spec_LeadersOf.l1 k l (n : Int) (out ++ [(n : Int)]) x y ((t + 1 : Nat) : Int)) r) → Ev (fun k => spec_LeadersOf.l2 k l (c : Int) out num den (t : Int) nx a b l (l.length : Int) (i : Int)) r := by
  intro m; induction m with
  | zero =>
    intro i st nx a b hi hs hk he
    simp only [scanL] at he
    cases st with
    | none =>
      simp only [isSt] at hs
      subst hs; subst he
      refine Ev.step (f := fun _ => some (out, true)) (fun k => ?_) (Ev.now _)
      simp only [spec_LeadersOf.l2]; rw [if_neg (by omega), if_pos (by omega)]
    | some st =>
      obtain ⟨n, x, y⟩ := st
      obtain ⟨rfl, rfl, rfl⟩ := hs
      refine Ev.step (fun k => ?_) he
      simp only [spec_LeadersOf.l2]; rw [if_neg (by omega), if_neg (by omega), if_pos (by omega), w64 _ (by omega) (by omega)]; rfl
  | succ m ih =>
    intro i st nx a b hi hs hk he
    have gi := h i (by omega)
    have gc := h c hc
    have hstep : ∀ q, 10001 ≤ q → spec_LeadersOf.l2 (q + 1) l (c : Int) out num den (t : Int) nx a b l (l.length : Int) (i : Int) = (if (wk l i).f1 ≤ (wk l c).f1 then spec_LeadersOf.j3 q l (c : Int) out num den (t : Int) nx a b (i : Int) (tm l i c).1 (tm l i c).2.1 l (l.length : Int) (i : Int) true (wk l i).f0 (wk l i).f1 else (if (tm l i c).2.2 = true then spec_LeadersOf.j3 q l (c : Int) out num den (t : Int) nx a b (i : Int) (tm l i c).1 (tm l i c).2.1 l (l.length : Int) (i : Int) (decide ((wrap64 ((tm l i c).1 * den)) < (wrap64 (num * (tm l i c).2.1)))) (wk l i).f0 (wk l i).f1 else spec_LeadersOf.j3 q l (c : Int) out num den (t : Int) nx a b (i : Int) (tm l i c).1 (tm l i c).2.1 l (l.length : Int) (i : Int) true (wk l i).f0 (wk l i).f1)) := by
      intro q hq
      simp only [spec_LeadersOf.l2, rdw]
      rw [if_pos (by omega), if_pos (by omega), if_pos (by omega), if_pos (by omega), if_pos (by omega), e_meMeet q _ _ _ _ gc gi (by omega), meet_sym]
      rfl
    have hskip : ∀ q x y p s, spec_LeadersOf.j3 (q + 1) l (c : Int) out num den (t : Int) nx a b (i : Int) x y l (l.length : Int) (i : Int) true p s = spec_LeadersOf.l2 q l (c : Int) out num den (t : Int) nx a b l (l.length : Int) ((i + 1 : Nat) : Int) := by
      intro q x y p s
      simp only [spec_LeadersOf.j3, if_true]
      rw [w64 ((i : Int) + 1) (by omega) (by omega), show ((i : Int) + 1) = ((i + 1 : Nat) : Int) by omega]
    by_cases k : cand l c i
    · have bi := mt_bd l h c i hc (by omega) k.2
      have ns : ¬ (wk l i).f1 ≤ (wk l c).f1 := by have := k.1; omega
      have later := inv_later l h c hc num den n0.1 d1.1 hv i (by omega) k
      have q1 := m4 (tm l i c).1 den bi.1 ⟨by omega, d1.2⟩
      have q2 := m4 num (tm l i c).2.1 n0 ⟨by omega, bi.2.2⟩
      have hno : decide ((wrap64 ((tm l i c).1 * den)) < (wrap64 (num * (tm l i c).2.1))) = false := by
        rw [w64 ((tm l i c).1 * den) (by omega) (by omega), w64 (num * _) (by omega) (by omega)]
        exact decide_eq_false (by omega)
      cases st with
      | none =>
        simp only [isSt] at hs
        simp only [scanL] at he
        rw [if_pos k] at he
        refine evs 10001 (f := fun q => spec_LeadersOf.j3 q l (c : Int) out num den (t : Int) nx a b (i : Int) (tm l i c).1 (tm l i c).2.1 l (l.length : Int) (i : Int) false (wk l i).f0 (wk l i).f1) (fun q hq => ?_) (Ev.step (fun q => ?_) (ih (i + 1) (some (i, (tm l i c).1, (tm l i c).2.1)) (i : Int) (tm l i c).1 (tm l i c).2.1 (by omega) ⟨rfl, rfl, rfl⟩ ⟨by omega, bi.1, bi.2.1, bi.2.2⟩ he))
        · rw [hstep q hq, if_neg ns, if_pos k.2, hno]
        · simp only [spec_LeadersOf.j3, Bool.false_eq_true, if_false]
          rw [if_pos (by omega), w64 ((i : Int) + 1) (by omega) (by omega), show ((i : Int) + 1) = ((i + 1 : Nat) : Int) by omega]
      | some st =>
        obtain ⟨n, x, y⟩ := st
        obtain ⟨rfl, rfl, rfl⟩ := hs
        obtain ⟨k1, k2, k3, k4⟩ := hk
        have p1 := m4 (tm l i c).1 b bi.1 ⟨by omega, k4⟩
        have p2 := m4 a (tm l i c).2.1 k2 ⟨by omega, bi.2.2⟩
        simp only [scanL] at he
        by_cases k5 : (tm l i c).1 * b < a * (tm l i c).2.1 ∨ (tm l i c).1 * b = a * (tm l i c).2.1 ∧ (wk l i).f1 > (wk l n).f1
        · rw [if_pos ⟨k, k5⟩] at he
          refine evs 10001 (f := fun q => spec_LeadersOf.j3 q l (c : Int) out num den (t : Int) (n : Int) a b (i : Int) (tm l i c).1 (tm l i c).2.1 l (l.length : Int) (i : Int) false (wk l i).f0 (wk l i).f1) (fun q hq => ?_) (Ev.step (fun q => ?_) (ih (i + 1) (some (i, (tm l i c).1, (tm l i c).2.1)) (i : Int) (tm l i c).1 (tm l i c).2.1 (by omega) ⟨rfl, rfl, rfl⟩ ⟨by omega, bi.1, bi.2.1, bi.2.2⟩ he))
          · rw [hstep q hq, if_neg ns, if_pos k.2, hno]
          · simp only [spec_LeadersOf.j3, Bool.false_eq_true, if_false]
            rw [if_neg (by omega), w64 ((tm l i c).1 * b) (by omega) (by omega), w64 (a * _) (by omega) (by omega), w64 ((i : Int) + 1) (by omega) (by omega), show ((i : Int) + 1) = ((i + 1 : Nat) : Int) by omega]
            rcases k5 with z | z
            · rw [if_pos z]
            · rw [if_neg (by omega), if_pos z.1, if_pos (by omega), if_pos (by omega), rdw, if_pos z.2]
        · rw [if_neg (fun z => k5 z.2)] at he
          refine evs 10001 (f := fun q => spec_LeadersOf.j3 q l (c : Int) out num den (t : Int) (n : Int) a b (i : Int) (tm l i c).1 (tm l i c).2.1 l (l.length : Int) (i : Int) false (wk l i).f0 (wk l i).f1) (fun q hq => ?_) (Ev.step (fun q => ?_) (ih (i + 1) (some (n, a, b)) (n : Int) a b (by omega) ⟨rfl, rfl, rfl⟩ ⟨k1, k2, k3, k4⟩ he))
          · rw [hstep q hq, if_neg ns, if_pos k.2, hno]
          · simp only [spec_LeadersOf.j3, Bool.false_eq_true, if_false]
            rw [if_neg (by omega), w64 ((tm l i c).1 * b) (by omega) (by omega), w64 (a * _) (by omega) (by omega), w64 ((i : Int) + 1) (by omega) (by omega), show ((i : Int) + 1) = ((i + 1 : Nat) : Int) by omega, if_neg (fun z => k5 (Or.inl z))]
            by_cases e : (tm l i c).1 * b = a * (tm l i c).2.1
            · rw [if_pos e, if_pos (by omega), if_pos (by omega), rdw, if_neg (fun z => k5 (Or.inr ⟨e, z⟩))]
            · rw [if_neg e]
    · have he' : (match scanL l c m (i + 1) st with | none => r = (out, true) | some (n, x, y) => Ev (fun k => spec_LeadersOf.l1 k l (n : Int) (out ++ [(n : Int)]) x y ((t + 1 : Nat) : Int)) r) := by
        cases st with
        | none => simp only [scanL] at he; rw [if_neg k] at he; exact he
        | some st => obtain ⟨n, x, y⟩ := st; simp only [scanL] at he; rw [if_neg (fun z => k z.1)] at he; exact he
      refine evs 10001 (f := fun q => spec_LeadersOf.j3 q l (c : Int) out num den (t : Int) nx a b (i : Int) (tm l i c).1 (tm l i c).2.1 l (l.length : Int) (i : Int) true (wk l i).f0 (wk l i).f1) (fun q hq => ?_) (Ev.step (fun q => hskip q _ _ _ _) (ih (i + 1) st nx a b (by omega) hs hk he'))
      rw [hstep q hq]
      by_cases z : (wk l i).f1 ≤ (wk l c).f1
      · rw [if_pos z]
      · rw [if_neg z, if_neg (fun z2 => k ⟨by omega, z2⟩)]
theorem inv_place (l : List S25) (c : Nat) (num den : Int) (hd : 1 ≤ den) (hv : inv l c num den) (i : Nat) (hi : i < l.length) (e : (wk l i).f1 = (wk l c).f1) : (wk l i).f0 ≤ (wk l c).f0 := by
  have h := hv i hi
  rw [e] at h
  have : (wk l i).f0 * den ≤ (wk l c).f0 * den := by omega
  exact Int.le_of_mul_le_mul_right this (by omega)
/-- The leaders from one on: the same in both, each one faster than the one before, the last one as fast as anybody. -/
theorem lead_from (l : List S25) (h : allk l) (hl : (l.length : Int) ≤ 8) : ∀ (M c : Nat), c < l.length → fast l (wk l c).f1 ≤ M → ∀ (out : List Int) (num den : Int) (t : Nat), out.length ≤ 100 - M → (0 ≤ num ∧ num ≤ 2000) → (1 ≤ den ∧ den ≤ 200) → inv l c num den → t + M ≤ l.length → M ≤ 8 →
    ∃ q : List Nat, (q.length ≤ M ∧ ∀ x ∈ q, x < l.length) ∧ Ev (fun k => impl_leadersFrom.l1 k l (c : Int) out) (out ++ q.map (fun x : Nat => (x : Int))) ∧ Ev (fun k => spec_LeadersOf.l1 k l (c : Int) out num den (t : Int)) (out ++ q.map (fun x : Nat => (x : Int)), true) ∧ List.Pairwise (fun x y => (wk l x).f1 < (wk l y).f1) (c :: q) ∧ ∀ i, i < l.length → (wk l i).f1 ≤ (wk l ((c :: q).getLast (by simp))).f1 ∧ ((wk l i).f1 = (wk l ((c :: q).getLast (by simp))).f1 → (wk l i).f0 ≤ (wk l ((c :: q).getLast (by simp))).f0) := by
  intro M
  induction M with
  | zero =>
    intro c hc hf out num den t ho hn hd hv ht hM
    have none_fast : ∀ i, i < l.length → (wk l i).f1 ≤ (wk l c).f1 := by
      intro i hi
      rcases Int.lt_or_le (wk l c).f1 (wk l i).f1 with z | z
      · have := fast_lt l (wk l c).f1 (wk l i).f1 z (wk l i) (wk_mem l i hi) rfl; omega
      · exact z
    have hg := scan_good l h c hc l.length 0 none (by omega) (by intro j hj; omega)
    have hsc : scanL l c l.length 0 none = none := by
      cases e : scanL l c l.length 0 none with
      | none => rfl
      | some st =>
        obtain ⟨n, x, y⟩ := st
        rw [e] at hg
        have := none_fast n hg.1
        have := hg.2.1.1
        omega
    refine ⟨[], by simp, ?_, ?_, by simp, fun i hi => ⟨none_fast i hi, inv_place l c num den hd.1 hv i hi⟩⟩
    · refine Ev.step (fun k => ?_) (i_l2 l h hl c hc out (by omega) _ l.length 0 none (-1) 0 0 (by omega) rfl trivial (by rw [hsc]; simp))
      simp only [impl_leadersFrom.l1]; rfl
    · refine Ev.step (fun k => ?_) (s_l2 l h hl c hc out (by omega) num den hn hd hv t (by omega) _ l.length 0 none (-1) 0 1 (by omega) rfl trivial (by rw [hsc]; simp))
      simp only [spec_LeadersOf.l1]
      rw [w64 _ (by omega) (by omega), if_pos (by omega)]; rfl
  | succ M ih =>
    intro c hc hf out num den t ho hn hd hv ht hM
    have hg := scan_good l h c hc l.length 0 none (by omega) (by intro j hj; omega)
    cases e : scanL l c l.length 0 none with
    | none =>
      rw [e] at hg
      have none_fast : ∀ i, i < l.length → (wk l i).f1 ≤ (wk l c).f1 := by
        intro i hi
        rcases Int.lt_or_le (wk l c).f1 (wk l i).f1 with z | z
        · have b := inv_behind l c num den hn.1 hd.1 hv i hi z
          exact absurd ⟨z, meet_ok _ _ _ _ b.2 z⟩ (hg i hi)
        · exact z
      refine ⟨[], by simp, ?_, ?_, by simp, fun i hi => ⟨none_fast i hi, inv_place l c num den hd.1 hv i hi⟩⟩
      · refine Ev.step (fun k => ?_) (i_l2 l h hl c hc out (by omega) _ l.length 0 none (-1) 0 0 (by omega) rfl trivial (by rw [e]; simp))
        simp only [impl_leadersFrom.l1]; rfl
      · refine Ev.step (fun k => ?_) (s_l2 l h hl c hc out (by omega) num den hn hd hv t (by omega) _ l.length 0 none (-1) 0 1 (by omega) rfl trivial (by rw [e]; simp))
        simp only [spec_LeadersOf.l1]
        rw [w64 _ (by omega) (by omega), if_pos (by omega)]; rfl
    | some st =>
      obtain ⟨n, x, y⟩ := st
      rw [e] at hg
      have hv2 := inv_step l h c hc num den hn.1 hd.1 hv n x y hg
      have bn := mt_bd l h c n hc hg.1 hg.2.1.2
      obtain ⟨g1, g2, rfl, rfl, g5⟩ := hg
      have fl := fast_lt l (wk l c).f1 (wk l n).f1 g2.1 (wk l n) (wk_mem l n g1) rfl
      obtain ⟨q, q0, q1, q2, q3, q4⟩ := ih n g1 (by omega) (out ++ [(n : Int)]) (tm l n c).1 (tm l n c).2.1 (t + 1) (by simp; omega) bn.1 bn.2 hv2 (by omega) (by omega)
      refine ⟨n :: q, ⟨by have := q0.1; simp only [List.length_cons]; omega, ?_⟩, ?_, ?_, ?_, ?_⟩
      · intro z hz
        rcases List.mem_cons.mp hz with e | e
        · omega
        · exact q0.2 z e
      · refine Ev.step (fun k => ?_) (i_l2 l h hl c hc out (by omega) _ l.length 0 none (-1) 0 0 (by omega) rfl trivial (by rw [e]; simpa using q1))
        simp only [impl_leadersFrom.l1]; rfl
      · refine Ev.step (fun k => ?_) (s_l2 l h hl c hc out (by omega) num den hn hd hv t (by omega) _ l.length 0 none (-1) 0 1 (by omega) rfl trivial (by rw [e]; simpa using q2))
        simp only [spec_LeadersOf.l1]
        rw [w64 _ (by omega) (by omega), if_pos (by omega)]; rfl
      · refine List.Pairwise.cons (fun z hz => ?_) q3
        rcases List.mem_cons.mp hz with e | e
        · subst e; exact g2.1
        · have := List.rel_of_pairwise_cons q3 e
          have := g2.1; omega
      · intro i hi
        have := q4 i hi
        rw [List.getLast_cons (by simp)]; exact this
def vN (i : Nat) : Value := .int .i64 i
def posn (lt : Nat → Nat → Bool) (x : Nat) (o : List Nat) : Nat → Nat
  | 0 => 0
  | k + 1 => if lt x (o.getD k 0) = true then posn lt x o k else k + 1
def insN (lt : Nat → Nat → Bool) (x : Nat) (o : List Nat) (j : Nat) : List Nat := o.take (posn lt x o j) ++ x :: o.drop (posn lt x o j)
def ordN (lt : Nat → Nat → Bool) : Nat → List Nat
  | 0 => []
  | i + 1 => insN lt i (ordN lt i) i
theorem posn_le (lt : Nat → Nat → Bool) (x : Nat) (o : List Nat) : ∀ k, posn lt x o k ≤ k := by
  intro k; induction k with
  | zero => exact Nat.le_refl _
  | succ k ih => simp only [posn]; split <;> omega
theorem ordN_len (lt : Nat → Nat → Bool) : ∀ i, (ordN lt i).length = i := by
  intro i; induction i with
  | zero => rfl
  | succ i ih =>
    have := posn_le lt i (ordN lt i) i
    simp only [ordN, insN, List.length_append, List.length_take, List.length_cons, List.length_drop, ih]; omega
theorem ordN_lt (lt : Nat → Nat → Bool) : ∀ i, ∀ x ∈ ordN lt i, x < i := by
  intro i; induction i with
  | zero => intro x hx; simp [ordN] at hx
  | succ i ih =>
    intro x hx
    simp only [ordN, insN, List.mem_append, List.mem_cons] at hx
    rcases hx with h | h | h
    · have := ih x (List.mem_of_mem_take h); omega
    · omega
    · have := ih x (List.mem_of_mem_drop h); omega
theorem swpV_app (a b : Value) (R : List Value) : ∀ A : List Value, swpV (A ++ a :: b :: R) A.length = A ++ b :: a :: R := by
  intro A
  unfold swpV
  have e1 : (A ++ a :: b :: R).getD A.length undef = a := by simp [List.getD_eq_getElem?_getD]
  have e2 : (A ++ a :: b :: R).getD (A.length + 1) undef = b := by simp [List.getD_eq_getElem?_getD, List.getElem?_append]
  rw [e1, e2, List.set_append_right _ _ (by omega), List.set_append_right _ _ (by omega)]
  simp
theorem insJ_ins (c : Value → Value → Int) (lt : Nat → Nat → Bool) (hc : ∀ i k : Nat, c (vN i) (vN k) < 0 ↔ lt i k = true) (x : Nat) (o : List Nat) (rest : List Value) : ∀ j, j ≤ o.length → insJ c j ((o.take j).map vN ++ vN x :: ((o.drop j).map vN ++ rest)) = (o.take (posn lt x o j)).map vN ++ vN x :: ((o.drop (posn lt x o j)).map vN ++ rest) := by
  intro j; induction j with
  | zero => intro _; simp [insJ, posn]
  | succ j ih =>
    intro hj
    have hjl : j < o.length := by omega
    have ed : o.drop j = o[j] :: o.drop (j + 1) := List.drop_eq_getElem_cons hjl
    have et : (o.take (j + 1)).map vN ++ vN x :: ((o.drop (j + 1)).map vN ++ rest) = (o.take j).map vN ++ vN o[j] :: vN x :: ((o.drop (j + 1)).map vN ++ rest) := by
      rw [List.take_succ_eq_append_getElem hjl, List.map_append]; simp only [List.map_cons, List.map_nil, List.append_assoc, List.cons_append, List.nil_append]
    have el : ((o.take j).map vN).length = j := by simp; omega
    have eo : o.getD j 0 = o[j] := by simp [List.getD_eq_getElem?_getD, hjl]
    have e1 : ((o.take j).map vN ++ vN o[j] :: vN x :: ((o.drop (j + 1)).map vN ++ rest)).getD j undef = vN o[j] := by
      simp [List.getD_eq_getElem?_getD, List.getElem?_append, Nat.min_eq_left (Nat.le_of_lt hjl)]
    have e2 : ((o.take j).map vN ++ vN o[j] :: vN x :: ((o.drop (j + 1)).map vN ++ rest)).getD (j + 1) undef = vN x := by
      simp [List.getD_eq_getElem?_getD, List.getElem?_append, Nat.min_eq_left (Nat.le_of_lt hjl)]
    have es := swpV_app (vN o[j]) (vN x) ((o.drop (j + 1)).map vN ++ rest) ((o.take j).map vN)
    rw [el] at es
    simp only [insJ, posn]
    rw [et, e1, e2, eo]
    by_cases h : lt x o[j] = true
    · rw [if_pos h, if_pos ((hc _ _).mpr h), es]
      have := ih (by omega)
      rw [ed] at this
      simp only [List.map_cons, List.cons_append] at this
      exact this
    · rw [if_neg h, if_neg (fun z => h ((hc _ _).mp z)), ← et]
theorem insI_ord (c : Value → Value → Int) (lt : Nat → Nat → Bool) (hc : ∀ i k : Nat, c (vN i) (vN k) < 0 ↔ lt i k = true) : ∀ (m i : Nat), insI c m i ((ordN lt i).map vN ++ (List.range' i m).map vN) = (ordN lt (i + m)).map vN := by
  intro m; induction m with
  | zero => intro i; simp [insI]
  | succ m ih =>
    intro i
    have h := insJ_ins c lt hc i (ordN lt i) ((List.range' (i + 1) m).map vN) i (by rw [ordN_len]; exact Nat.le_refl _)
    have e1 : (ordN lt i).take i = ordN lt i := List.take_of_length_le (by rw [ordN_len]; exact Nat.le_refl _)
    have e2 : (ordN lt i).drop i = [] := List.drop_of_length_le (by rw [ordN_len]; exact Nat.le_refl _)
    rw [e1, e2] at h
    simp only [List.map_nil, List.nil_append] at h
    simp only [insI, List.range'_succ, List.map_cons]
    rw [h]
    have := ih (i + 1)
    rw [show i + 1 + m = i + (m + 1) by omega] at this
    rw [← this]
    congr 1
    simp [ordN, insN]
theorem orderV_ord (cc : S25 → S25 → Int) (l : List S25) (hl : 1 ≤ l.length) : orderV cc l = (ordN (fun i k => decide (cc (l.getD i z25) (l.getD k z25) < 0)) l.length).map fun i : Nat => (i : Int) := by
  unfold orderV
  have h := insI_ord (ciV cc l) (fun i k => decide (cc (l.getD i z25) (l.getD k z25) < 0)) (fun i k => by simp [ciV, ixV, vN]) (l.length - 1) 1
  have e : fillV l.length l.length = (ordN (fun i k => decide (cc (l.getD i z25) (l.getD k z25) < 0)) 1).map vN ++ (List.range' 1 (l.length - 1)).map vN := by
    rw [← List.map_append]
    have e1 : ordN (fun i k => decide (cc (l.getD i z25) (l.getD k z25) < 0)) 1 = [0] := rfl
    rw [e1]
    have e2 : [0] ++ List.range' 1 (l.length - 1) = List.range l.length := by
      rw [List.range_eq_range', show l.length = (l.length - 1) + 1 by omega, List.range'_succ]; simp
    rw [e2]
    unfold fillV
    apply List.map_congr_left
    intro i hi
    rw [if_pos (List.mem_range.mp hi)]; rfl
  rw [e, h, show 1 + (l.length - 1) = l.length by omega, List.map_map]
  rfl
theorem rdI (o : List Nat) (j : Nat) : rd (o.map fun i : Nat => (i : Int)) (j : Int) = ((o.getD j 0 : Nat) : Int) := by
  unfold rd
  simp only [Int.toNat_natCast, List.getD_eq_getElem?_getD, List.getElem?_map]
  cases o[j]? <;> rfl
theorem s_l1 (lt : Nat → Nat → Bool) (keys : List (List Int)) (hk : keys.length ≤ 100) (o : List Nat) (i : Nat) (hi : i < keys.length) (ho : ∀ x ∈ o, x < keys.length) (hol : o.length ≤ 100) (hb : ∀ k j, 5 ≤ k → j < keys.length → spec_meBefore.f k (jg keys (i : Int)) (jg keys (j : Int)) = some (lt i j)) (r : List Int) : ∀ j, j ≤ o.length →
    Ev (fun k => spec_meOrder.l0 k keys ((insN lt i o j).map fun x : Nat => (x : Int)) keys (keys.length : Int) ((i + 1 : Nat) : Int)) r → Ev (fun k => spec_meOrder.l1 k keys (o.map fun x : Nat => (x : Int)) (i : Int) (jg keys (i : Int)) (j : Int) keys (keys.length : Int) (i : Int)) r := by
  have fin : ∀ j, j ≤ o.length → posn lt i o j = j → ∀ q, (if 0 ≤ (j : Int) then (if (j : Int) ≤ ((o.map fun x : Nat => (x : Int)).length : Int) then ((spec_l1Own.f ((o.map fun x : Nat => (x : Int)).take (j : Int).toNat)).bind fun t149 => (if t149.length < 17592186044416 then ((some (t149 ++ [(i : Int)] : List Int)).bind fun y152 => ((some ((o.map fun x : Nat => (x : Int)).drop (j : Int).toNat : List Int)).bind fun y155 => (if y152.length + y155.length < 17592186044416 then (spec_meOrder.l0 q keys (y152 ++ y155) keys (keys.length : Int) (wrap64 ((i : Int) + 1))) else (none)))) else (none))) else (none)) else (none)) = spec_meOrder.l0 q keys ((insN lt i o j).map fun x : Nat => (x : Int)) keys (keys.length : Int) ((i + 1 : Nat) : Int) := by
    intro j hj hp q
    rw [if_pos (by omega), if_pos (by rw [List.length_map]; omega)]
    unfold spec_l1Own.f
    simp only [Option.bind_some, List.nil_append, Int.toNat_natCast, List.length_nil, List.length_take, List.length_map, List.length_append, List.length_drop, List.length_cons]
    rw [if_pos (by omega)]
    simp only [Option.bind_some, List.length_take, List.length_map]
    rw [if_pos (by omega), if_pos (by omega), w64 _ (by omega) (by omega), show ((i : Int) + 1) = ((i + 1 : Nat) : Int) by omega]
    congr 1
    unfold insN; rw [hp]; simp
  intro j; induction j with
  | zero =>
    intro hj he
    refine Ev.step (fun q => ?_) he
    simp only [spec_meOrder.l1]
    rw [if_neg (by omega)]
    exact fin 0 hj rfl q
  | succ j ih =>
    intro hj he
    have hjl : j < o.length := by omega
    have hm : o.getD j 0 < keys.length := ho _ (by simp [List.getD_eq_getElem?_getD, hjl])
    by_cases h : lt i (o.getD j 0) = true
    · have e : insN lt i o (j + 1) = insN lt i o j := by unfold insN; simp only [posn]; rw [if_pos h]
      rw [e] at he
      refine evs 6 (fun q hq => ?_) (ih (by omega) he)
      simp only [spec_meOrder.l1]
      rw [w64 (((j + 1 : Nat) : Int) - 1) (by omega) (by omega), show ((j + 1 : Nat) : Int) - 1 = (j : Int) by omega, rdI, hb q _ (by omega) hm]
      rw [if_pos (by omega), if_pos (by omega), if_pos (by rw [List.length_map]; omega), if_pos (by omega), if_pos (by omega)]
      simp only [Option.bind_some]
      rw [if_pos h]
    · refine evs 6 (fun q hq => ?_) he
      simp only [spec_meOrder.l1]
      rw [w64 (((j + 1 : Nat) : Int) - 1) (by omega) (by omega), show ((j + 1 : Nat) : Int) - 1 = (j : Int) by omega, rdI, hb q _ (by omega) hm]
      rw [if_pos (by omega), if_pos (by omega), if_pos (by rw [List.length_map]; omega), if_pos (by omega), if_pos (by omega)]
      simp only [Option.bind_some]
      rw [if_neg h]
      exact fin (j + 1) hj (by simp only [posn]; rw [if_neg h]) q
theorem s_l0o (lt : Nat → Nat → Bool) (keys : List (List Int)) (hk : keys.length ≤ 100) (hb : ∀ k i j, 5 ≤ k → i < keys.length → j < keys.length → spec_meBefore.f k (jg keys (i : Int)) (jg keys (j : Int)) = some (lt i j)) : ∀ m i, i + m = keys.length → Ev (fun k => spec_meOrder.l0 k keys ((ordN lt i).map fun x : Nat => (x : Int)) keys (keys.length : Int) (i : Int)) ((ordN lt keys.length).map fun x : Nat => (x : Int)) := by
  intro m; induction m with
  | zero =>
    intro i hi
    simp only [Nat.add_zero] at hi; subst hi
    refine Ev.step (f := fun _ => some _) (fun k => ?_) (Ev.now _)
    simp only [spec_meOrder.l0]; rw [if_neg (by omega)]
  | succ m ih =>
    intro i hi
    have h := s_l1 lt keys hk (ordN lt i) i (by omega) (fun x hx => by have := ordN_lt lt i x hx; omega) (by rw [ordN_len]; omega) (fun k j h1 h2 => hb k i j h1 (by omega) h2) _ (ordN lt i).length (Nat.le_refl _) (by rw [ordN_len]; exact ih (i + 1) (by omega))
    refine Ev.step (fun k => ?_) h
    simp only [spec_meOrder.l0]
    rw [if_pos (by omega), if_pos (by omega), if_pos (by omega)]
    simp only [List.length_map]
theorem e_meOrder (lt : Nat → Nat → Bool) (keys : List (List Int)) (hk : keys.length ≤ 100) (hb : ∀ k i j, 5 ≤ k → i < keys.length → j < keys.length → spec_meBefore.f k (jg keys (i : Int)) (jg keys (j : Int)) = some (lt i j)) : Ev (fun k => spec_meOrder.f k keys) ((ordN lt keys.length).map fun x : Nat => (x : Int)) :=
  s_l0o lt keys hk hb keys.length 0 (by omega)
theorem rd1 (a : Int) : rd [a] 0 = a := rfl
theorem bef1 (k : Nat) (a b : Int) (hk : 5 ≤ k) : spec_meBefore.f k [a] [b] = some (decide (a < b)) := by
  obtain ⟨k, rfl⟩ : ∃ m, k = m + 2 := ⟨k - 2, by omega⟩
  unfold spec_meBefore.f
  simp only [spec_meBefore.l0, List.length_cons, List.length_nil, rd1]
  rw [if_pos (by omega), if_pos (by omega), if_pos (by omega), if_pos (by omega)]
  by_cases e : a = b
  · subst e; rw [if_pos rfl, w64 _ (by omega) (by omega), if_neg (by omega)]; simp
  · rw [if_neg e]
    first | done | rfl | congr
theorem rd2a (a b : Int) : rd [a, b] 0 = a := rfl
theorem rd2b (a b : Int) : rd [a, b] 1 = b := rfl
theorem bef2 (k : Nat) (a b c d : Int) (hk : 5 ≤ k) : spec_meBefore.f k [a, b] [c, d] = some (decide (a < c ∨ a = c ∧ b < d)) := by
  obtain ⟨k, rfl⟩ : ∃ m, k = m + 3 := ⟨k - 3, by omega⟩
  unfold spec_meBefore.f
  simp only [spec_meBefore.l0, List.length_cons, List.length_nil, rd2a]
  rw [if_pos (by omega), if_pos (by omega), if_pos (by omega), if_pos (by omega)]
  by_cases e : a = c
  · subst e
    rw [if_pos rfl, w64 _ (by omega) (by omega)]
    simp only [Int.zero_add, rd2b]
    rw [if_pos (by omega), if_pos (by omega), if_pos (by omega), if_pos (by omega)]
    by_cases e : b = d
    · subst e; rw [if_pos rfl, w64 _ (by omega) (by omega), if_neg (by omega)]; simp
    · rw [if_neg e]; simp
      all_goals (first | done | rfl | congr)
  · rw [if_neg e]; simp [e]
    all_goals (first | done | rfl | congr)
theorem cmp3_neg (a b : Int) : cmp3 a b < 0 ↔ a < b := by
  unfold cmp3; split
  · omega
  · split <;> omega
theorem rdK (l : List S25) (key : S25 → List Int) (i : Nat) (h : i < l.length) : jg (l.map key) (i : Int) = key (l.getD i z25) := by
  unfold jg; simp [List.getD_eq_getElem?_getD, h]
theorem take_snocK (l : List S25) (key : S25 → List Int) (i : Nat) (h : i < l.length) : (l.take i).map key ++ [key (l.getD i z25)] = (l.take (i + 1)).map key := by
  rw [List.take_succ_eq_append_getElem h, List.map_append]; simp only [List.map_cons, List.map_nil, List.getD_eq_getElem?_getD, List.getElem?_eq_getElem h, Option.getD_some]
theorem wat_keys (num den : Int) (l : List S25) (hl : (l.length : Int) ≤ 8) (r : List Int) (he : Ev (fun k => spec_meOrder.f k (l.map fun x => [plV num den x])) r) : ∀ m i, i + m = l.length → Ev (fun k => spec_WalkersAt.l0 k num den ((l.take i).map fun x => [plV num den x]) l (l.length : Int) (i : Int)) (r, true) := by
  intro m; induction m with
  | zero =>
    intro i hi
    simp only [Nat.add_zero] at hi
    obtain ⟨K, hK⟩ := he
    refine ⟨K + 1, fun k hk => ?_⟩
    obtain ⟨q, rfl⟩ : ∃ q, k = q + 1 := ⟨k - 1, by omega⟩
    have e := hK q (by omega)
    simp only at e
    simp only [spec_WalkersAt.l0]
    rw [if_neg (by omega), List.take_of_length_le (by omega), e]; rfl
  | succ m ih =>
    intro i hi
    refine Ev.step (fun k => ?_) (ih (i + 1) (by omega))
    simp only [spec_WalkersAt.l0]
    rw [if_pos (by omega), if_pos (by omega), if_pos (by omega), if_pos (by rw [List.length_map, List.length_take]; omega), w64 ((i : Int) + 1) (by omega) (by omega), show ((i : Int) + 1) = ((i + 1 : Nat) : Int) by omega, ← take_snocK l (fun x => [plV num den x]) i (by omega), rdS]
    rfl
theorem wat_all (l : List S25) (hl : (l.length : Int) ≤ 1048576) (num den : Int) : ∃ v : List Int × Bool, v.1.length ≤ 9 ∧ impl_WalkersAt.f l num den = some v ∧ ∃ K, ∀ k, K ≤ k → spec_WalkersAt.f k l num den = some v := by
  unfold impl_WalkersAt.f
  rw [e_AreWalkers l (by omega), e_isTime]
  by_cases hw : ws l
  · by_cases ht : gt num den
    · have h8 : l.length ≤ 8 := by have := hw.1; omega
      simp only [decide_eq_true hw, decide_eq_true ht, Option.bind_some, if_true]
      have ho := orderV_ord (fun x y => cmp3 (plV num den x) (plV num den y)) l (by have := hw.1; omega)
      have hm := e_meOrder (fun i k => decide (cmp3 (plV num den (l.getD i z25)) (plV num den (l.getD k z25)) < 0)) (l.map fun x => [plV num den x]) (by rw [List.length_map]; omega) (fun k i j hk hi hj => by
        rw [List.length_map] at hi hj
        rw [rdK l _ i hi, rdK l _ j hj, bef1 k _ _ hk]
        congr 1
        exact decide_eq_decide.mpr (cmp3_neg _ _).symm)
      rw [List.length_map] at hm
      obtain ⟨K, hK⟩ := wat_keys num den l hw.1.2 _ hm l.length 0 (by omega)
      refine ⟨_, ?_, rfl, K + 10000000, fun k hk => ?_⟩
      · rw [ho]; simp [ordN_len]; omega
      · obtain ⟨q, rfl⟩ : ∃ q, k = q + 1 := ⟨k - 1, by omega⟩
        unfold spec_WalkersAt.f
        rw [e_meAll (q + 1) l (by omega) (by omega), e_meTime]
        simp only [decide_eq_true hw, decide_eq_true ht, Option.bind_some, if_true, Bool.not_true, spec_WalkersAt.j0, Bool.false_eq_true, if_false]
        have e := hK q (by omega)
        simp only [List.take_zero, List.map_nil] at e
        rw [ho]; exact e
    · refine ⟨([], false), by simp, by simp [hw, ht], 10000000, fun k hk => ?_⟩
      obtain ⟨q, rfl⟩ : ∃ q, k = q + 1 := ⟨k - 1, by omega⟩
      unfold spec_WalkersAt.f
      rw [e_meAll (q + 1) l (by omega) (by omega), e_meTime]
      simp [hw, ht, spec_WalkersAt.j0]
  · refine ⟨([], false), by simp, by simp [hw], 10000000, fun k hk => ?_⟩
    obtain ⟨q, rfl⟩ : ∃ q, k = q + 1 := ⟨k - 1, by omega⟩
    unfold spec_WalkersAt.f
    rw [e_meAll (q + 1) l (by omega) (by omega)]
    simp [hw, spec_WalkersAt.j0]
theorem lexV_neg (x y : S25) : lexV x y < 0 ↔ (x.f1 < y.f1 ∨ x.f1 = y.f1 ∧ x.f0 < y.f0) := by
  unfold lexV cmp3
  split <;> split <;> (try split) <;> (try split) <;> omega
theorem lor_keys (l : List S25) (hl : (l.length : Int) ≤ 8) (r : List Int) (he : Ev (fun k => spec_meOrder.f k (l.map fun x => [x.f1, x.f0])) r) : ∀ m i, i + m = l.length → Ev (fun k => spec_LastOrder.l0 k ((l.take i).map fun x => [x.f1, x.f0]) l (l.length : Int) (i : Int)) (r, true) := by
  intro m; induction m with
  | zero =>
    intro i hi
    simp only [Nat.add_zero] at hi
    obtain ⟨K, hK⟩ := he
    refine ⟨K + 1, fun k hk => ?_⟩
    obtain ⟨q, rfl⟩ : ∃ q, k = q + 1 := ⟨k - 1, by omega⟩
    have e := hK q (by omega)
    simp only at e
    simp only [spec_LastOrder.l0]
    rw [if_neg (by omega), List.take_of_length_le (by omega), e]; rfl
  | succ m ih =>
    intro i hi
    refine Ev.step (fun k => ?_) (ih (i + 1) (by omega))
    simp only [spec_LastOrder.l0]
    rw [if_pos (by omega), if_pos (by omega), if_pos (by omega), if_pos (by rw [List.length_map, List.length_take]; omega), w64 ((i : Int) + 1) (by omega) (by omega), show ((i : Int) + 1) = ((i + 1 : Nat) : Int) by omega, ← take_snocK l (fun x => [x.f1, x.f0]) i (by omega), rdS]
theorem lor_all (l : List S25) (hl : (l.length : Int) ≤ 1048576) : ∃ v : List Int × Bool, v.1.length ≤ 9 ∧ impl_LastOrder.f l = some v ∧ ∃ K, ∀ k, K ≤ k → spec_LastOrder.f k l = some v := by
  unfold impl_LastOrder.f
  rw [e_AreWalkers l (by omega)]
  by_cases hw : ws l
  · have h8 : l.length ≤ 8 := by have := hw.1; omega
    simp only [decide_eq_true hw, Option.bind_some, if_true]
    have ho := orderV_ord lexV l (by have := hw.1; omega)
    have hm := e_meOrder (fun i k => decide (lexV (l.getD i z25) (l.getD k z25) < 0)) (l.map fun x => [x.f1, x.f0]) (by rw [List.length_map]; omega) (fun k i j hk hi hj => by
      rw [List.length_map] at hi hj
      rw [rdK l _ i hi, rdK l _ j hj, bef2 k _ _ _ _ hk]
      congr 1
      exact decide_eq_decide.mpr (lexV_neg _ _).symm)
    rw [List.length_map] at hm
    obtain ⟨K, hK⟩ := lor_keys l hw.1.2 _ hm l.length 0 (by omega)
    refine ⟨_, ?_, rfl, K + 10000000, fun k hk => ?_⟩
    · rw [ho]; simp [ordN_len]; omega
    · unfold spec_LastOrder.f
      rw [e_meAll k l (by omega) (by omega)]
      simp only [decide_eq_true hw, Option.bind_some, if_true]
      have e := hK k (by omega)
      simp only [List.take_zero, List.map_nil] at e
      rw [ho]; exact e
  · refine ⟨([], false), by simp, by simp [hw], 10000000, fun k hk => ?_⟩
    unfold spec_LastOrder.f
    rw [e_meAll k l (by omega) (by omega)]
    simp [hw]

def putL (n : Int) : List Int → List Int
  | [] => [n]
  | x :: t => if x < n then x :: putL n t else if x = n then x :: t else n :: x :: t
theorem putL_mem (n : Int) : ∀ (l : List Int) (y : Int), y ∈ putL n l ↔ y = n ∨ y ∈ l := by
  intro l
  induction l with
  | nil => intro y; simp [putL]
  | cons x t ih =>
    intro y
    simp only [putL]
    split
    · simp only [List.mem_cons, ih]; constructor <;> (intro h; rcases h with h | h | h <;> simp [h])
    · split
      · rename_i h; subst h; simp
      · simp
theorem putL_sorted (n : Int) : ∀ (l : List Int), l.Pairwise (· < ·) → (putL n l).Pairwise (· < ·) := by
  intro l
  induction l with
  | nil => intro _; simp [putL]
  | cons x t ih =>
    intro h
    obtain ⟨h1, h2⟩ := List.pairwise_cons.1 h
    simp only [putL]
    split
    · rename_i c
      rw [List.pairwise_cons]
      refine ⟨fun y hy => ?_, ih h2⟩
      rcases (putL_mem n t y).1 hy with rfl | hy
      · exact c
      · exact h1 y hy
    · split
      · exact h
      · rw [List.pairwise_cons]
        refine ⟨fun y hy => ?_, h⟩
        rcases List.mem_cons.1 hy with rfl | hy
        · omega
        · have := h1 y hy; omega
theorem putL_len (n : Int) : ∀ (l : List Int), (putL n l).length ≤ l.length + 1 := by
  intro l
  induction l with
  | nil => simp [putL]
  | cons x t ih =>
    simp only [putL]
    split
    · simp; omega
    · split <;> simp
theorem sorted_unique : ∀ (a b : List Int), a.Pairwise (· < ·) → b.Pairwise (· < ·) → (∀ y, y ∈ a ↔ y ∈ b) → a = b := by
  intro a
  induction a with
  | nil =>
    intro b _ _ h
    match b with
    | [] => rfl
    | y :: t => exact absurd ((h y).2 (by simp)) (by simp)
  | cons x t ih =>
    intro b ha hb h
    match b, hb, h with
    | [], _, h => exact absurd ((h x).1 (by simp)) (by simp)
    | y :: s, hb, h =>
      obtain ⟨a1, a2⟩ := List.pairwise_cons.1 ha
      obtain ⟨b1, b2⟩ := List.pairwise_cons.1 hb
      have e : x = y := by
        rcases List.mem_cons.1 ((h x).1 (by simp)) with e | e
        · exact e
        · rcases List.mem_cons.1 ((h y).2 (by simp)) with f | f
          · exact f.symm
          · have := b1 x e; have := a1 y f; omega
      subst e
      rw [ih s a2 b2 (fun z => ?_)]
      have hz := h z
      simp only [List.mem_cons] at hz
      constructor
      · intro q; have := a1 z q
        rcases hz.1 (.inr q) with r | r
        · omega
        · exact r
      · intro q; have := b1 z q
        rcases hz.2 (.inr q) with r | r
        · omega
        · exact r
theorem compact_up (d : Array Int) (hs : ∀ i j, i < j → j < d.size → d[i]! ≤ d[j]!) : ∀ m, m ≤ d.size → (Lib.compactUpTo d m).Pairwise (· < ·) ∧ (∀ x ∈ Lib.compactUpTo d m, ∃ j, j < m ∧ x = d[j]!) ∧ ∀ j, j < m → d[j]! ∈ Lib.compactUpTo d m := by
  intro m
  induction m with
  | zero => intro _; simp [Lib.compactUpTo]
  | succ m ih =>
    intro hm
    obtain ⟨a, b, c⟩ := ih (by omega)
    rw [Lib.compactUpTo_succ]
    by_cases k : Lib.keeps d m = true
    · rw [if_pos k]
      refine ⟨?_, fun x hx => ?_, fun j hj => ?_⟩
      · rw [List.pairwise_append]
        refine ⟨a, by simp, fun x hx y hy => ?_⟩
        simp at hy
        subst hy
        obtain ⟨j, hj, rfl⟩ := b x hx
        simp only [Lib.keeps, decide_eq_true_eq] at k
        rcases k with k | k
        · omega
        · have h1 := hs (m - 1) m (by omega) (by omega)
          by_cases z : j = m - 1
          · subst z; omega
          · have h2 := hs j (m - 1) (by omega) (by omega); omega
      · rcases List.mem_append.1 hx with hx | hx
        · obtain ⟨j, hj, e⟩ := b x hx; exact ⟨j, by omega, e⟩
        · simp at hx; exact ⟨m, by omega, hx⟩
      · by_cases z : j = m
        · subst z; simp
        · exact List.mem_append.2 (.inl (c j (by omega)))
    · rw [if_neg k, List.append_nil]
      refine ⟨a, fun x hx => ?_, fun j hj => ?_⟩
      · obtain ⟨j, hj, e⟩ := b x hx; exact ⟨j, by omega, e⟩
      · by_cases z : j = m
        · subst z
          simp only [Lib.keeps, decide_eq_true_eq, not_or, ne_eq, Classical.not_not] at k
          rw [k.2]; exact c (j - 1) (by omega)
        · exact c j (by omega)
theorem compact_sorted (zs : List Int) : (Lib.compact (zs.mergeSort fun x y => decide (x ≤ y))).Pairwise (· < ·) ∧ ∀ y, y ∈ Lib.compact (zs.mergeSort fun x y => decide (x ≤ y)) ↔ y ∈ zs := by
  have hp := List.mergeSort_perm zs (fun x y => decide (x ≤ y))
  have hs := List.pairwise_mergeSort (le := fun x y : Int => decide (x ≤ y)) (by intro a b c; simp; omega) (by intro a b; simp; omega) zs
  generalize zs.mergeSort (fun x y => decide (x ≤ y)) = ts at hp hs
  have key := compact_up ts.toArray (fun i j hij hj => by
    have hj' : j < ts.length := by simpa using hj
    have := List.pairwise_iff_getElem.1 hs i j (by omega) hj' hij
    simp only [decide_eq_true_eq] at this
    simpa [getElem!_pos, hj', show i < ts.length by omega] using this) ts.length (by simp)
  unfold Lib.compact
  refine ⟨key.1, fun y => ?_⟩
  rw [← hp.mem_iff]
  constructor
  · intro hy
    obtain ⟨j, hj, rfl⟩ := key.2.1 y hy
    simp [getElem!_pos, hj]
  · intro hy
    obtain ⟨j, hj, rfl⟩ := List.mem_iff_getElem.1 hy
    have := key.2.2 j hj
    simpa [getElem!_pos, hj] using this
theorem put_compact (zs : List Int) : zs.foldl (fun o x => putL x o) [] = Lib.compact (zs.mergeSort fun x y => decide (x ≤ y)) := by
  have go : ∀ (zs o : List Int), o.Pairwise (· < ·) → (zs.foldl (fun o x => putL x o) o).Pairwise (· < ·) ∧ ∀ y, y ∈ zs.foldl (fun o x => putL x o) o ↔ y ∈ zs ∨ y ∈ o := by
    intro zs
    induction zs with
    | nil => intro o h; exact ⟨h, by simp⟩
    | cons x t ih =>
      intro o h
      simp only [List.foldl_cons]
      obtain ⟨a, b⟩ := ih (putL x o) (putL_sorted x o h)
      refine ⟨a, fun y => ?_⟩
      rw [b, putL_mem, List.mem_cons]
      constructor
      · rintro (h | h | h) <;> simp [h]
      · rintro ((h | h) | h) <;> simp [h]
  obtain ⟨a, b⟩ := go zs [] List.Pairwise.nil
  obtain ⟨c, d⟩ := compact_sorted zs
  exact sorted_unique _ _ a c (fun y => by rw [b, d]; exact or_iff_left (List.not_mem_nil))
theorem e_l1Put_l0 (n : Int) (l : List Int) (hl : l.length ≤ 100000) : ∀ (m i k : Nat), i + m = l.length → m < k → spec_l1Put.l0 k l n (i : Int) = some (l.take i ++ putL n (l.drop i)) := by
  intro m
  induction m with
  | zero =>
    intro i k hi hk
    obtain ⟨k, rfl⟩ : ∃ q, k = q + 1 := ⟨k - 1, by omega⟩
    have e : i = l.length := by omega
    subst e
    simp only [spec_l1Put.l0]
    rw [if_neg (by omega)]
    simp [putL]
    omega
  | succ m ih =>
    intro i k hi hk
    obtain ⟨k, rfl⟩ : ∃ q, k = q + 1 := ⟨k - 1, by omega⟩
    have hil : i < l.length := by omega
    have hrd : rd l (i : Int) = l[i] := by simp [rd, List.getD_eq_getElem?_getD, hil]
    have hd : l.drop i = l[i] :: l.drop (i + 1) := List.drop_eq_getElem_cons hil
    simp only [spec_l1Put.l0]
    rw [if_pos (by omega), if_pos (by omega), hrd, hd]
    simp only [putL]
    by_cases c : l[i] < n
    · rw [if_pos c, if_pos c, w64 _ (by omega) (by omega), show ((i : Int) + 1) = ((i + 1 : Nat) : Int) by omega, ih (i + 1) k (by omega) (by omega)]
      congr 1
      rw [List.take_succ_eq_append_getElem hil, List.append_assoc]
      rfl
    · rw [if_neg c, if_neg c]
      by_cases e : l[i] = n
      · rw [if_pos e, if_pos e, ← hd, List.take_append_drop]
      · rw [if_neg e, if_neg e]
        have t : ((i : Nat) : Int).toNat = i := by omega
        have t1 : (l.take i).length ≤ 100000 := by simp; omega
        have t2 : (l.drop i).length ≤ 100000 := by simp; omega
        simp only [Option.bind_some, t, List.nil_append, List.length_append, List.length_nil, List.length_cons, Nat.zero_add]
        rw [if_pos (by omega), if_pos (by omega), if_pos (by omega), if_pos (by omega), hd]
        simp
theorem e_l1Put (k : Nat) (l : List Int) (n : Int) (hl : l.length ≤ 100000) (hk : l.length < k) : spec_l1Put.f k l n = some (putL n l) := by
  unfold spec_l1Put.f
  have := e_l1Put_l0 n l hl l.length 0 k (by omega) hk
  simpa using this
def rpN (a p s gap sp : Int) (x : Nat) : Int := (p * sp + s * (gap + (x : Int) * a)) % (a * sp)
def rpL (sp : Int) (n : Int) : Int × Int := (lowN n sp, lowD n sp)
def rpC (a p s gap sp : Int) : List Int := (numsT (rpN a p s gap sp) sp.toNat).foldl (fun o x => putL x o) []
theorem rp_expr (a p s gap sp : Int) (ga : gr a) (g : gk p s) (h1 : 0 ≤ gap ∧ gap < a) (h2 : 1 ≤ sp ∧ sp ≤ 200) (x : Int) (x0 : 0 ≤ x) (x1 : x < sp) :
    wrap64 (wrap64 (p * sp) + wrap64 (s * wrap64 (gap + wrap64 (x * a)))) = p * sp + s * (gap + x * a) ∧ wrap64 (a * sp) = a * sp ∧ (-40000000 ≤ p * sp + s * (gap + x * a) ∧ p * sp + s * (gap + x * a) ≤ 40000000) ∧ 0 < a * sp ∧ a * sp ≤ 200000 := by
  unfold gr at ga; unfold gk at g
  have m1 := abs_mul p sp 1000 200 (by omega) (by omega)
  have m2 := abs_mul x a 200 1000 (by omega) (by omega)
  have m3 : 0 ≤ x * a := Int.mul_nonneg x0 (by omega)
  have m4 := abs_mul s (gap + x * a) 100 201000 (by omega) (by omega)
  have m5 := abs_mul a sp 1000 200 (by omega) (by omega)
  have m6 : 0 < a * sp := Int.mul_pos (by omega) (by omega)
  rw [w64 (p * sp) (by omega) (by omega), w64 (x * a) (by omega) (by omega), w64 (gap + x * a) (by omega) (by omega), w64 (s * (gap + x * a)) (by omega) (by omega), w64 _ (by omega) (by omega), w64 (a * sp) (by omega) (by omega)]
  exact ⟨rfl, rfl, by omega, m6, by omega⟩
theorem foldl_put_len : ∀ (zs o : List Int), (zs.foldl (fun o x => putL x o) o).length ≤ zs.length + o.length := by
  intro zs
  induction zs with
  | nil => intro o; simp
  | cons x t ih =>
    intro o
    simp only [List.foldl_cons, List.length_cons]
    have a := ih (putL x o)
    have b := putL_len x o
    omega
theorem rp_l1 (sp : Int) (h2 : 1 ≤ sp ∧ sp ≤ 200) (cs : List Int) (hc : ∀ n ∈ cs, -200000 ≤ n ∧ n ≤ 200000) (hl : cs.length ≤ 1000) : ∀ (m i k : Nat), i + m = cs.length → m + 1000000 < k → spec_RingPlaces.l1 k sp (rpRows (rpL sp) (cs.take i)) cs (cs.length : Int) (i : Int) = some (rpRows (rpL sp) cs, true) := by
  intro m
  induction m with
  | zero =>
    intro i k hi hk
    obtain ⟨k, rfl⟩ : ∃ q, k = q + 1 := ⟨k - 1, by omega⟩
    simp only [spec_RingPlaces.l1]
    rw [if_neg (by omega), List.take_of_length_le (by omega)]
  | succ m ih =>
    intro i k hi hk
    obtain ⟨k, rfl⟩ : ∃ q, k = q + 1 := ⟨k - 1, by omega⟩
    have hil : i < cs.length := by omega
    have hrd : rd cs (i : Int) = cs[i] := by simp [rd, List.getD_eq_getElem?_getD, hil]
    have hb := hc _ (List.getElem_mem hil)
    simp only [spec_RingPlaces.l1]
    rw [if_pos (by omega), if_pos (by omega), if_pos (by omega), hrd, e_meLow k _ _ 200000 (by omega) (by omega) (by omega) (by omega) (by omega)]
    simp only [Option.bind_some]
    rw [if_pos (by simp [rpRows]; omega), w64 _ (by omega) (by omega), show ((i : Int) + 1) = ((i + 1 : Nat) : Int) by omega]
    have e : rpRows (rpL sp) (cs.take i) ++ [[lowN cs[i] sp, lowD cs[i] sp]] = rpRows (rpL sp) (cs.take (i + 1)) := by
      unfold rpRows; rw [List.take_succ_eq_append_getElem hil, List.map_append]; rfl
    rw [e]
    exact ih (i + 1) k (by omega) (by omega)
theorem rp_l0 (a p s gap sp : Int) (ga : gr a) (g : gk p s) (h1 : 0 ≤ gap ∧ gap < a) (h2 : 1 ≤ sp ∧ sp ≤ 200) (r : Option (List (List Int) × Bool)) : ∀ (m i k : Nat) (o : List Int), i + m = sp.toNat → o.length + m ≤ 1000 → m + 2000000 < k →
    (∀ k, 1900000 < k → spec_RingPlaces.l1 k sp [] (((List.range' i m).map (rpN a p s gap sp)).foldl (fun o x => putL x o) o) ((((List.range' i m).map (rpN a p s gap sp)).foldl (fun o x => putL x o) o).length : Int) 0 = r) →
    spec_RingPlaces.l0 k a gap sp o (i : Int) p s = r := by
  intro m
  induction m with
  | zero =>
    intro i k o hi ho hk hr
    obtain ⟨k, rfl⟩ : ∃ q, k = q + 1 := ⟨k - 1, by omega⟩
    simp only [spec_RingPlaces.l0]
    rw [if_neg (by omega)]
    have := hr k (by omega)
    simpa using this
  | succ m ih =>
    intro i k o hi ho hk hr
    obtain ⟨k, rfl⟩ : ∃ q, k = q + 1 := ⟨k - 1, by omega⟩
    obtain ⟨e1, e2, e3, e4, e5⟩ := rp_expr a p s gap sp ga g h1 h2 (i : Int) (by omega) (by omega)
    simp only [spec_RingPlaces.l0]
    rw [if_pos (by omega), e1, e2, e_meMod _ _ e4 (by omega)]
    simp only [Option.bind_some]
    rw [e_l1Put k _ _ (by omega) (by omega)]
    simp only [Option.bind_some]
    rw [w64 _ (by omega) (by omega), show ((i : Int) + 1) = ((i + 1 : Nat) : Int) by omega]
    refine ih (i + 1) k _ (by omega) (by have := putL_len ((p * sp + s * (gap + (i : Int) * a)) % (a * sp)) o; omega) (by omega) (fun k hk => ?_)
    have := hr k hk
    simp only [List.range'_succ, List.map_cons, List.foldl_cons] at this
    exact this

theorem e_yLow_l0 : ∀ (b a : Nat) (k : Nat), b < k → laws_yLow.l0 k (a : Int) (b : Int) = some (((Nat.gcd a b : Nat) : Int) == 1) := by
  intro b
  induction b using Nat.strongRecOn with
  | ind b ih =>
    intro a k hk
    obtain ⟨k, rfl⟩ : ∃ m, k = m + 1 := ⟨k - 1, by omega⟩
    simp only [laws_yLow.l0]
    by_cases h : b = 0
    · subst h; simp
    · have hm := Nat.mod_lt a (show b > 0 by omega)
      rw [if_pos (by omega), if_neg (by omega), Int.tmod_eq_emod_of_nonneg (by omega), ← Int.natCast_emod, ih (a % b) hm b k (by omega)]
      have e : Nat.gcd b (a % b) = Nat.gcd a b := by rw [Nat.gcd_comm a b, Nat.gcd_rec b a, Nat.gcd_comm]
      rw [e]
theorem e_yLow (k : Nat) (a b : Int) (hb : 1 ≤ b) (ha : -9000000000000000000 ≤ a) (g : Int.gcd a b = 1) (hk : b + 2 < k) : laws_yLow.f k a b = some true := by
  unfold laws_yLow.f
  rw [if_neg (by omega)]
  obtain ⟨k, rfl⟩ : ∃ m, k = m + 1 := ⟨k - 1, by omega⟩
  have h := e_yLow_l0 b.natAbs a.natAbs k (by omega)
  have g' : Nat.gcd a.natAbs b.natAbs = 1 := g
  rw [g', show ((b.natAbs : Nat) : Int) = b by omega] at h
  by_cases c : a < 0
  · rw [if_pos c, w64 _ (by omega) (by omega)]
    rw [show ((a.natAbs : Nat) : Int) = -a by omega] at h
    simp only [laws_yLow.j0]; rw [h]; rfl
  · rw [if_neg c]
    rw [show ((a.natAbs : Nat) : Int) = a by omega] at h
    simp only [laws_yLow.j0]; rw [h]; rfl
theorem e_ySame_l0 (r : List Int) (hl : r.length ≤ 100000) : ∀ (n i k : Nat), i + n = r.length → n < k → laws_ySame.l0 k r r (r.length : Int) (i : Int) = some true := by
  intro n
  induction n with
  | zero =>
    intro i k hi hk
    obtain ⟨k, rfl⟩ : ∃ m, k = m + 1 := ⟨k - 1, by omega⟩
    simp only [laws_ySame.l0]; rw [if_neg (by omega)]
  | succ n ih =>
    intro i k hi hk
    obtain ⟨k, rfl⟩ : ∃ m, k = m + 1 := ⟨k - 1, by omega⟩
    simp only [laws_ySame.l0]
    rw [if_pos (by omega), if_pos (by omega), if_pos (by omega), if_pos (by omega), if_pos trivial, w64 _ (by omega) (by omega), show ((i : Int) + 1) = ((i + 1 : Nat) : Int) by omega]
    exact ih (i + 1) k (by omega) (by omega)
theorem e_ySame (k : Nat) (r : List Int) (hl : r.length ≤ 100000) (hk : r.length < k) : laws_ySame.f k r r = some true := by
  unfold laws_ySame.f; rw [if_pos rfl]; exact e_ySame_l0 r hl r.length 0 k (by omega) hk
theorem low_gcd (n d : Int) (hd : d ≠ 0) : Int.gcd (lowN n d) (lowD n d) = 1 := by
  have hg := gcd_pos n d hd
  have h := Int.gcd_ediv_gcd_ediv_gcd (i := n) (j := d) (by omega)
  unfold lowN lowD
  by_cases c : d < 0
  · rw [if_pos c, if_pos c, Int.neg_ediv_of_dvd (Int.gcd_dvd_left n d), Int.neg_ediv_of_dvd (Int.gcd_dvd_right n d), Int.gcd_neg, Int.neg_gcd]; exact h
  · rw [if_neg c, if_neg c]; exact h
/-- What the time of a meeting around a ring is. -/
theorem rt_ok (a p s p' s' num den : Int) (h : rtV a p s p' s' = (num, den, true)) :
    ((gr a ∧ gk p s) ∧ gk p' s') ∧ 0 ≤ num ∧ num ≤ 1000 ∧ 1 ≤ den ∧ den ≤ 1000 ∧ Int.gcd num den = 1 ∧ num * (ringV a p s p' s').2 = den * (ringV a p s p' s').1 := by
  unfold rtV at h
  by_cases c : (gr a ∧ gk p s) ∧ gk p' s'
  · rw [if_pos c] at h
    have bd := ring_bd a p s p' s' c.1.1 c.1.2 c.2
    have ga := c.1.1
    unfold gr at ga
    generalize ringV a p s p' s' = v at *
    obtain ⟨H, S⟩ := v
    simp only at *
    by_cases c1 : H = 0
    · rw [if_pos c1] at h
      simp only [Prod.mk.injEq, and_true] at h
      obtain ⟨rfl, rfl⟩ := h
      exact ⟨c, by omega, by omega, by omega, by omega, by decide, by rw [c1]; omega⟩
    · rw [if_neg c1] at h
      by_cases c2 : S = 0
      · rw [if_pos c2] at h; simp at h
      · rw [if_neg c2] at h
        simp only [Prod.mk.injEq, and_true] at h
        obtain ⟨rfl, rfl⟩ := h
        have lb := low_bd H S 1000 c2 (by omega) (by omega)
        have nn := lowN_neg H S c2
        rw [if_neg (by omega)] at nn
        exact ⟨c, by omega, by omega, by omega, by omega, low_gcd H S c2, low_cross H S c2⟩
  · rw [if_neg c] at h; simp at h
theorem ring_parts (a p s p' s' : Int) : ∃ t : Int, (s < s' ∧ p - p' = a * t + (ringV a p s p' s').1 ∧ (ringV a p s p' s').2 = s' - s) ∨ (¬ s < s' ∧ p' - p = a * t + (ringV a p s p' s').1 ∧ (ringV a p s p' s').2 = s - s') := by
  unfold ringV
  by_cases c : s < s'
  · rw [if_pos c]; exact ⟨(p - p') / a, .inl ⟨c, by simp only; exact (Int.mul_ediv_add_emod _ _).symm, rfl⟩⟩
  · rw [if_neg c]; exact ⟨(p' - p) / a, .inr ⟨c, by simp only; exact (Int.mul_ediv_add_emod _ _).symm, rfl⟩⟩
/-- Both are at one place, around. -/
theorem rt_apart (a p s p' s' num den : Int) (h : num * (ringV a p s p' s').2 = den * (ringV a p s p' s').1) : ∃ q : Int, (p - p') * den + (s - s') * num = (a * den) * q := by
  obtain ⟨t, h1 | h1⟩ := ring_parts a p s p' s'
  · obtain ⟨_, h2, h3⟩ := h1
    generalize ringV a p s p' s' = v at *
    obtain ⟨H, S⟩ := v
    simp only at *
    refine ⟨t, ?_⟩
    subst h3
    grind
  · obtain ⟨_, h2, h3⟩ := h1
    generalize ringV a p s p' s' = v at *
    obtain ⟨H, S⟩ := v
    simp only at *
    refine ⟨-t, ?_⟩
    subst h3
    grind
/-- The k-th meeting is not later than the time just if .. -/
theorem cr_ok (a H S t : Int) (ha : 1 ≤ a) (hH : 0 ≤ H ∧ H < a) (hS : 1 ≤ S) (ht : 0 ≤ t) (p q wide under : Int) (hq : 1 ≤ q) (hu : 1 ≤ under) (e1 : p * S = q * H) (e2 : wide * S = under * a) (c : Int) (hc : c = if t * S < H then 0 else (t * S - H) / a + 1) :
    0 ≤ c ∧ (c = 0 ↔ t * q < p) ∧ (0 < c → p * under + (c - 1) * wide * q ≤ t * q * under ∧ t * q * under < p * under + c * wide * q) := by
  have hS0 : 0 < S := by omega
  have k1 : t * q < p ↔ t * S < H := by
    have a1 : t * q < p ↔ t * q * S < p * S := (Int.mul_lt_mul_right hS0).symm
    have a2 : t * S < H ↔ q * (t * S) < q * H := (Int.mul_lt_mul_left (show 0 < q by omega)).symm
    rw [a1, a2, e1, show t * q * S = q * (t * S) by grind]
  by_cases z : t * S < H
  · rw [if_pos z] at hc
    exact ⟨by omega, ⟨fun _ => k1.mpr z, fun _ => hc⟩, fun h => by omega⟩
  · rw [if_neg z] at hc
    have d0 := Int.ediv_nonneg (show 0 ≤ t * S - H by omega) (show 0 ≤ a by omega)
    have d1 : (t * S - H) / a * a ≤ t * S - H := Int.ediv_mul_le _ (by omega)
    have d2 : t * S - H < ((t * S - H) / a + 1) * a := Int.lt_ediv_add_one_mul_self _ (by omega)
    refine ⟨by omega, ⟨fun h => by omega, fun h => absurd (k1.mp h) z⟩, fun _ => ?_⟩
    have hp : 0 < q * under := Int.mul_pos (by omega) (by omega)
    constructor
    · have b : (p * under + (c - 1) * wide * q) * S ≤ (t * q * under) * S := by
        have : (p * under + (c - 1) * wide * q) * S = (q * under) * (H + (c - 1) * a) := by grind
        rw [this, show (t * q * under) * S = (q * under) * (t * S) by grind]
        refine Int.mul_le_mul_of_nonneg_left ?_ (by omega)
        rw [hc]
        have : ((t * S - H) / a + 1 - 1) * a = (t * S - H) / a * a := by grind
        omega
      exact Int.le_of_mul_le_mul_right b hS0
    · have b : (t * q * under) * S < (p * under + c * wide * q) * S := by
        have : (p * under + c * wide * q) * S = (q * under) * (H + c * a) := by grind
        rw [this, show (t * q * under) * S = (q * under) * (t * S) by grind]
        refine Int.mul_lt_mul_of_pos_left ?_ hp
        rw [hc]; omega
      exact Int.lt_of_mul_lt_mul_right b (by omega)
theorem ring_inj (a s sp c0 : Int) (ha : 1 ≤ a) (hsp : 1 ≤ sp) (x y : Int) (h : (c0 + x * (s * a)) % (a * sp) = (c0 + y * (s * a)) % (a * sp)) : (sp.natAbs / Nat.gcd s.natAbs sp.natAbs) ∣ (x - y).natAbs := by
  have h1 : a * sp ∣ (c0 + x * (s * a)) - (c0 + y * (s * a)) := Int.dvd_of_emod_eq_zero (Int.emod_eq_emod_iff_emod_sub_eq_zero.mp h)
  have h2 : a * sp ∣ a * ((x - y) * s) := by
    have e : (c0 + x * (s * a)) - (c0 + y * (s * a)) = a * ((x - y) * s) := by grind
    rwa [e] at h1
  have h3 : sp ∣ (x - y) * s := Int.dvd_of_mul_dvd_mul_left (by omega) h2
  have h4 : sp.natAbs ∣ (x - y).natAbs * s.natAbs := by
    have := Int.natAbs_dvd_natAbs.mpr h3
    rwa [Int.natAbs_mul] at this
  have hg : 0 < Nat.gcd s.natAbs sp.natAbs := Nat.gcd_pos_of_pos_right _ (by omega)
  have cop : Nat.Coprime (sp.natAbs / Nat.gcd s.natAbs sp.natAbs) (s.natAbs / Nat.gcd s.natAbs sp.natAbs) := (Nat.coprime_div_gcd_div_gcd hg).symm
  obtain ⟨m, hm⟩ := Nat.gcd_dvd_right s.natAbs sp.natAbs
  obtain ⟨r, hr⟩ := Nat.gcd_dvd_left s.natAbs sp.natAbs
  generalize Nat.gcd s.natAbs sp.natAbs = g at *
  rw [hm, hr] at h4
  rw [hm, hr, Nat.mul_div_cancel_left _ hg, Nat.mul_div_cancel_left _ hg] at cop
  rw [hm, Nat.mul_div_cancel_left _ hg]
  have h5 : m ∣ (x - y).natAbs * r := Nat.dvd_of_mul_dvd_mul_left hg (by rw [show g * ((x - y).natAbs * r) = (x - y).natAbs * (g * r) by grind]; exact h4)
  exact cop.dvd_of_dvd_mul_right h5
theorem ring_per (a s sp c0 : Int) (ha : 1 ≤ a) (hsp : 1 ≤ sp) (x : Int) : (c0 + (x + ((sp.natAbs / Nat.gcd s.natAbs sp.natAbs : Nat) : Int)) * (s * a)) % (a * sp) = (c0 + x * (s * a)) % (a * sp) := by
  have hg : 0 < Nat.gcd s.natAbs sp.natAbs := Nat.gcd_pos_of_pos_right _ (by omega)
  obtain ⟨m, hm⟩ := Nat.gcd_dvd_right s.natAbs sp.natAbs
  obtain ⟨r, hr⟩ := Nat.gcd_dvd_left s.natAbs sp.natAbs
  generalize Nat.gcd s.natAbs sp.natAbs = g at *
  rw [hm, Nat.mul_div_cancel_left _ hg]
  have e1 : sp = (g : Int) * m := by have : (sp.natAbs : Int) = ((g * m : Nat) : Int) := by rw [hm]
                                     rw [Int.natCast_mul] at this; omega
  obtain ⟨q, hq⟩ : ∃ q : Int, s = (g : Int) * q := by
    have : (s.natAbs : Int) = ((g * r : Nat) : Int) := by rw [hr]
    rw [Int.natCast_mul] at this
    by_cases z : 0 ≤ s
    · exact ⟨r, by omega⟩
    · refine ⟨-r, ?_⟩
      rw [Int.mul_neg]; omega
  rw [show c0 + (x + (m : Int)) * (s * a) = c0 + x * (s * a) + (a * sp) * q by subst hq; rw [e1]; grind]
  exact Int.add_mul_emod_self_left _ _ _
theorem nodup_le : ∀ (l m : List Int), l.Nodup → (∀ x ∈ l, x ∈ m) → l.length ≤ m.length := by
  intro l
  induction l with
  | nil => intro m _ _; simp
  | cons a t ih =>
    intro m hn hs
    rw [List.nodup_cons] at hn
    have ha : a ∈ m := hs a (by simp)
    have := ih (m.erase a) hn.2 (fun x hx => (List.mem_erase_of_ne (by intro e; subst e; exact hn.1 hx)).mpr (hs x (by simp [hx])))
    rw [List.length_erase_of_mem ha] at this
    have : 0 < m.length := List.length_pos_of_mem ha
    simp only [List.length_cons]; omega
theorem up_nodup : ∀ (l : List Int), l.Pairwise (· < ·) → l.Nodup := by
  intro l h
  exact h.imp (fun h e => by omega)
/-- So many places: they part the difference of speeds. -/
theorem ring_len (a s sp c0 : Int) (ha : 1 ≤ a) (hsp : 1 ≤ sp) (l : List Int) (hl : l.Pairwise (· < ·)) (hm : ∀ y, y ∈ l ↔ ∃ x : Nat, (x : Int) < sp ∧ y = (c0 + (x : Int) * (s * a)) % (a * sp)) :
    l.length = sp.natAbs / Nat.gcd s.natAbs sp.natAbs := by
  have hg : 0 < Nat.gcd s.natAbs sp.natAbs := Nat.gcd_pos_of_pos_right _ (by omega)
  have hper := ring_per a s sp c0 ha hsp
  have hinj := ring_inj a s sp c0 ha hsp
  have hle : sp.natAbs / Nat.gcd s.natAbs sp.natAbs ≤ sp.natAbs := Nat.div_le_self _ _
  have hpos : 0 < sp.natAbs / Nat.gcd s.natAbs sp.natAbs := Nat.div_pos (Nat.gcd_le_right _ (by omega)) hg
  generalize sp.natAbs / Nat.gcd s.natAbs sp.natAbs = m at *
  have hred : ∀ x : Nat, ∃ r : Nat, r < m ∧ (c0 + (x : Int) * (s * a)) % (a * sp) = (c0 + (r : Int) * (s * a)) % (a * sp) := by
    intro x
    induction x using Nat.strongRecOn with
    | ind x ih =>
      by_cases c : x < m
      · exact ⟨x, c, rfl⟩
      · obtain ⟨r, hr, e⟩ := ih (x - m) (by omega)
        refine ⟨r, hr, ?_⟩
        rw [← e, ← hper ((x - m : Nat) : Int), show ((x - m : Nat) : Int) + (m : Int) = (x : Int) by omega]
  have n2 : ((List.range m).map fun x : Nat => (c0 + (x : Int) * (s * a)) % (a * sp)).Nodup := by
    rw [List.nodup_iff_pairwise_ne, List.pairwise_map]
    refine List.Pairwise.imp_of_mem (fun {x y} hx hy hxy e => ?_) List.pairwise_lt_range
    have hx := List.mem_range.1 hx
    have hy := List.mem_range.1 hy
    have d := Nat.le_of_dvd (by omega) (hinj _ _ e)
    omega
  have a1 := nodup_le l ((List.range m).map fun x : Nat => (c0 + (x : Int) * (s * a)) % (a * sp)) (up_nodup l hl) (fun y hy => by
    obtain ⟨x, _, rfl⟩ := (hm y).mp hy
    obtain ⟨r, hr, e⟩ := hred x
    exact List.mem_map.2 ⟨r, List.mem_range.2 hr, e.symm⟩)
  have a2 := nodup_le ((List.range m).map fun x : Nat => (c0 + (x : Int) * (s * a)) % (a * sp)) l n2 (fun y hy => by
    obtain ⟨r, hr, rfl⟩ := List.mem_map.1 hy
    have := List.mem_range.1 hr
    exact (hm _).mpr ⟨r, by omega, rfl⟩)
  simp only [List.length_map, List.length_range] at a1 a2
  omega
theorem ring_found (a p s H S num den n0 r0 r1 t : Int) (hS : 1 ≤ S) (e1 : num * S = den * H) (e2 : p * S + s * H = (a * S) * t + n0) (e3 : r0 * S = r1 * n0) : (p * den + s * num) * r1 - r0 * den = (a * den * r1) * t := by
  apply Int.eq_of_mul_eq_mul_right (show S ≠ 0 by omega)
  grind
theorem low_lt (n m S : Int) (hS : 1 ≤ S) (h : n < m) : lowN n S * lowD m S < lowN m S * lowD n S := by
  have c1 := low_cross n S (by omega)
  have c2 := low_cross m S (by omega)
  have d1 := (low_bd n S (n.natAbs + S) (by omega) (by omega) (by omega)).2.1
  have d2 := (low_bd m S (m.natAbs + S) (by omega) (by omega) (by omega)).2.1
  generalize lowN n S = a at *
  generalize lowD n S = b at *
  generalize lowN m S = c at *
  generalize lowD m S = d at *
  have e : (a * d) * S < (c * b) * S := by
    rw [show (a * d) * S = (b * d) * n by grind, show (c * b) * S = (b * d) * m by grind]
    exact Int.mul_lt_mul_of_pos_left h (Int.mul_pos (by omega) (by omega))
  exact Int.lt_of_mul_lt_mul_right e (by omega)
theorem low_in (n S a : Int) (hS : 1 ≤ S) (h0 : 0 ≤ n) (h1 : n < a * S) : 0 ≤ lowN n S ∧ lowN n S < a * lowD n S := by
  have c1 := low_cross n S (by omega)
  have d1 := (low_bd n S (n.natAbs + S) (by omega) (by omega) (by omega)).2.1
  have nn := lowN_neg n S (by omega)
  rw [if_neg (by omega)] at nn
  refine ⟨by omega, ?_⟩
  generalize lowN n S = x at *
  generalize lowD n S = y at *
  have e : x * S < (a * y) * S := by
    rw [c1, show (a * y) * S = y * (a * S) by grind]
    exact Int.mul_lt_mul_of_pos_left h1 (by omega)
  exact Int.lt_of_mul_lt_mul_right e (by omega)
theorem fold_put_mem : ∀ (zs o : List Int) (y : Int), y ∈ zs.foldl (fun o x => putL x o) o ↔ y ∈ zs ∨ y ∈ o := by
  intro zs
  induction zs with
  | nil => intro o y; simp
  | cons x t ih =>
    intro o y
    rw [List.foldl_cons, ih, putL_mem, List.mem_cons]
    constructor
    · rintro (h | h | h)
      · exact .inl (.inr h)
      · exact .inl (.inl h)
      · exact .inr h
    · rintro ((h | h) | h)
      · exact .inr (.inl h)
      · exact .inl h
      · exact .inr (.inr h)
theorem fold_put_sorted : ∀ (zs o : List Int), o.Pairwise (· < ·) → (zs.foldl (fun o x => putL x o) o).Pairwise (· < ·) := by
  intro zs
  induction zs with
  | nil => intro o h; exact h
  | cons x t ih => intro o h; exact ih _ (putL_sorted x o h)
/-- The places' keys: in order, so many as part the difference of speeds, the first meeting's among them. -/
theorem rpC_facts (a p s gap sp : Int) (ha : 1 ≤ a) (h2 : 1 ≤ sp) :
    (rpC a p s gap sp).Pairwise (· < ·) ∧ (∀ n ∈ rpC a p s gap sp, 0 ≤ n ∧ n < a * sp) ∧ ((rpC a p s gap sp).length : Int) ∣ sp ∧ 1 ≤ (rpC a p s gap sp).length ∧ (p * sp + s * gap) % (a * sp) ∈ rpC a p s gap sp := by
  have hN : 0 < a * sp := Int.mul_pos (by omega) (by omega)
  have hs : (rpC a p s gap sp).Pairwise (· < ·) := fold_put_sorted _ _ List.Pairwise.nil
  have hm : ∀ y, y ∈ rpC a p s gap sp ↔ ∃ x : Nat, (x : Int) < sp ∧ y = ((p * sp + s * gap) + (x : Int) * (s * a)) % (a * sp) := by
    intro y
    unfold rpC
    rw [fold_put_mem]
    unfold numsT
    simp only [List.not_mem_nil, or_false, List.mem_map, List.mem_range'_1, List.mem_range]
    constructor
    · rintro ⟨x, hx, rfl⟩
      refine ⟨x, by omega, ?_⟩
      unfold rpN
      congr 1
      grind
    · rintro ⟨x, hx, rfl⟩
      refine ⟨x, by omega, ?_⟩
      unfold rpN
      congr 1
      grind
  have hl := ring_len a s sp (p * sp + s * gap) ha h2 _ hs hm
  have hd : (rpC a p s gap sp).length ∣ sp.natAbs := by rw [hl]; exact Nat.div_dvd_of_dvd (Nat.gcd_dvd_right _ _)
  have hi : (p * sp + s * gap) % (a * sp) ∈ rpC a p s gap sp := (hm _).mpr ⟨0, by omega, by simp⟩
  refine ⟨hs, fun n hn => ?_, Int.ofNat_dvd_left.mpr hd, List.length_pos_of_mem hi, hi⟩
  obtain ⟨x, _, rfl⟩ := (hm n).mp hn
  exact ⟨Int.emod_nonneg _ (by omega), Int.emod_lt_of_pos _ hN⟩
/-- Who leads: the farthest first, each one faster than the one before, the last one before all others in the end. -/
def LeadOk (l : List S25) (c : Nat) (q : List Nat) : Prop :=
  (∀ x ∈ c :: q, x < l.length) ∧ List.Pairwise (fun x y => (wk l x).f1 < (wk l y).f1) (c :: q) ∧ (∀ j, j < l.length → (wk l j).f0 ≤ (wk l c).f0) ∧
  ∀ i, i < l.length → (wk l i).f1 ≤ (wk l ((c :: q).getLast (by simp))).f1 ∧ ((wk l i).f1 = (wk l ((c :: q).getLast (by simp))).f1 → (wk l i).f0 ≤ (wk l ((c :: q).getLast (by simp))).f0)
theorem lead_all2 (l : List S25) (hl : (l.length : Int) ≤ 1048576) : ∃ v : List Int × Bool, v.1.length ≤ 9 ∧ v.2 = decide (ws l) ∧ (ws l → ∃ (c : Nat) (q : List Nat), v.1 = (c :: q).map (fun x : Nat => (x : Int)) ∧ LeadOk l c q) ∧
    ∃ K, ∀ k, K ≤ k → impl_LeadersOf.f k l = some v ∧ spec_LeadersOf.f k l = some v := by
  by_cases hw : ws l
  · have ha : allk l := fun i hi => hw.2 _ (wk_mem l i hi)
    have h0 : 0 < l.length := by have := hw.1; omega
    have h8 : l.length ≤ 8 := by have := hw.1; omega
    have hb := best0_lt l l.length 0 0 (by omega) h0
    have hah := best0_ahead l l.length 0 0 (by omega) (by intro j hj; omega)
    have hv := inv_start l _ hah
    have hf := fast_le l (wk l (best0 l l.length 0 0)).f1
    obtain ⟨q, q0, q1, q2, q3, q4⟩ := lead_from l ha hw.1.2 l.length (best0 l l.length 0 0) hb hf [((best0 l l.length 0 0 : Nat) : Int)] 0 1 0 (by simp; omega) (by omega) (by omega) hv (by omega) (by omega)
    obtain ⟨K1, k1⟩ := i_l0 l hw.1.2 _ l.length 0 0 (by omega) h0 q1
    obtain ⟨K2, k2⟩ := s_l0 l hw.1.2 _ l.length 0 0 (by omega) h0 q2
    refine ⟨([((best0 l l.length 0 0 : Nat) : Int)] ++ q.map (fun x : Nat => (x : Int)), true), by have := q0.1; simp; omega, by simp [hw], fun _ => ⟨best0 l l.length 0 0, q, rfl, ?_, q3, fun j hj => ?_, q4⟩, K1 + K2 + 10000000, fun k hk => ⟨?_, ?_⟩⟩
    · intro x hx
      rcases List.mem_cons.mp hx with e | e
      · omega
      · exact q0.2 x e
    · have := hah j hj
      unfold ahead at this; omega
    · unfold impl_LeadersOf.f impl_leadersFrom.f
      rw [e_AreWalkers l (by omega)]
      simp only [decide_eq_true hw, Option.bind_some, if_true]
      have e := k1 k (by omega)
      simp only [Int.natCast_zero, Int.ofNat_zero] at e
      simp only [e, Option.bind_some]
    · unfold spec_LeadersOf.f
      rw [e_meAll k l (by omega) (by omega)]
      simp only [decide_eq_true hw, Option.bind_some, if_true]
      have e := k2 k (by omega)
      rw [show ((0 : Nat) : Int) = 0 from rfl] at e
      exact e
  · refine ⟨([], false), by simp, by simp [hw], fun h => absurd h hw, 10000000, fun k hk => ⟨?_, ?_⟩⟩
    · unfold impl_LeadersOf.f
      rw [e_AreWalkers l (by omega)]
      simp [hw]
    · unfold spec_LeadersOf.f
      rw [e_meAll k l (by omega) (by omega)]
      simp [hw]

theorem rp_mem (a p s gap sp : Int) (h4 : 0 < a * sp) (h5 : a * sp ≤ 200000) : ∀ n ∈ rpC a p s gap sp, -200000 ≤ n ∧ n ≤ 200000 := by
  intro n hn
  unfold rpC at hn
  rw [put_compact] at hn
  have := ((compact_sorted _).2 n).1 hn
  simp only [numsT, List.mem_map] at this
  obtain ⟨j, _, rfl⟩ := this
  unfold rpN
  have m0 := Int.emod_nonneg (p * sp + s * (gap + (j : Int) * a)) (show a * sp ≠ 0 by omega)
  have m1 := Int.emod_lt_of_pos (p * sp + s * (gap + (j : Int) * a)) h4
  omega
theorem rp_len (a p s gap sp : Int) (h2 : 1 ≤ sp ∧ sp ≤ 200) : (rpC a p s gap sp).length ≤ 1000 := by
  have := foldl_put_len (numsT (rpN a p s gap sp) sp.toNat) []
  unfold rpC
  rw [numsT_len, List.length_nil] at this
  omega
theorem rp_sp (a p s p' s' : Int) (ga : gr a) (g : gk p s) (g' : gk p' s') (hne : ¬ s = s') : (0 ≤ (ringV a p s p' s').1 ∧ (ringV a p s p' s').1 < a) ∧ (1 ≤ (ringV a p s p' s').2 ∧ (ringV a p s p' s').2 ≤ 200) := by
  refine ⟨(ring_bd a p s p' s' ga g g').1, ?_⟩
  unfold gk at g g'; unfold ringV
  split <;> simp only <;> omega
theorem rp_spec (a p s p' s' : Int) (ga : gr a) (g : gk p s) (g' : gk p' s') (hne : ¬ s = s') (k : Nat) (hk : 10000000 < k) :
    spec_RingPlaces.f k a p s p' s' = some (rpRows (rpL (ringV a p s p' s').2) (rpC a p s (ringV a p s p' s').1 (ringV a p s p' s').2), true) := by
  obtain ⟨h1, h2⟩ := rp_sp a p s p' s' ga g g' hne
  have x := rp_expr a p s _ _ ga g h1 h2 0 (by omega) (by omega)
  unfold spec_RingPlaces.f
  rw [e_meRing]
  obtain ⟨k, rfl⟩ : ∃ q, k = q + 1 := ⟨k - 1, by omega⟩
  simp only [Option.bind_some, decide_eq_true_eq]
  rw [if_pos ⟨⟨ga, g⟩, g'⟩]
  simp only [spec_RingPlaces.j0]
  rw [if_neg (by simpa using hne), e_meAhead a p s p' s' ga g g']
  have e : ringV' a p s p' s' = ringV a p s p' s' := rfl
  rw [e]
  simp only [Option.bind_some]
  generalize (ringV a p s p' s').1 = gap at *
  generalize (ringV a p s p' s').2 = sp at *
  have q := rp_l0 a p s gap sp ga g h1 h2 (some (rpRows (rpL sp) (rpC a p s gap sp), true)) sp.toNat 0 k [] (by omega) (by simp; omega) (by omega) (fun k hk => by
    have r := rp_l1 sp h2 (rpC a p s gap sp) (rp_mem a p s gap sp x.2.2.2.1 x.2.2.2.2) (rp_len a p s gap sp h2) (rpC a p s gap sp).length 0 k (by omega) (by have := rp_len a p s gap sp h2; omega)
    have e2 : ((List.range' 0 sp.toNat).map (rpN a p s gap sp)).foldl (fun o x => putL x o) [] = rpC a p s gap sp := by unfold rpC numsT; rw [List.range_eq_range']
    rw [e2]
    simpa [rpRows] using r)
  simpa using q
theorem rp_impl (a p s p' s' : Int) (ga : gr a) (g : gk p s) (g' : gk p' s') (hne : ¬ s = s') (W : World) :
    Calls Tryz.prog 6 #[.int .i64 a, .agg #[.int .i64 p, .int .i64 s], .agg #[.int .i64 p', .int .i64 s']] W fun e w' => ∃ v, e = .returned (.tuple #[v, .bool true]) ∧ RRx W w' v (rpRows (rpL (ringV a p s p' s').2) (rpC a p s (ringV a p s p' s').1 (ringV a p s p' s').2)) := by
  obtain ⟨h1, h2⟩ := rp_sp a p s p' s' ga g g' hne
  have x := rp_expr a p s _ _ ga g h1 h2 0 (by omega) (by omega)
  have hg := e_ringGap a p s p' s' ga g g'
  refine rpP.yes 10000000 a p s p' s' _ W (by rw [e_isRing, decide_eq_true ga]) (by rw [e_iIsWalker, decide_eq_true g]) (by rw [e_iIsWalker, decide_eq_true g']) hne (fun W' => ?_)
  generalize hG : (ringV a p s p' s').1 = gap at *
  generalize hS : (ringV a p s p' s').2 = sp at *
  refine rp.calls 10000000 a p s p' s' gap sp (rpN a p s gap sp) (rpL sp) W' (by rw [hg, ← hG, ← hS]) (by omega) (by omega) (fun y y0 y1 => ?_) (rpC a p s gap sp) (by unfold rpC; rw [put_compact]) (rp_len a p s gap sp h2) (fun n hn => ?_)
  · obtain ⟨e1, e2, e3, e4, e5⟩ := rp_expr a p s gap sp ga g h1 h2 y y0 y1
    rw [e1, e2, e_around _ _ e4 40000000 (by omega) e3 (by omega)]
    unfold rpN
    rw [show ((y.toNat : Nat) : Int) = y by omega]
  · have b := rp_mem a p s gap sp x.2.2.2.1 x.2.2.2.2 n hn
    rw [e_lowest 10000000 n sp 200000 (by omega) (by omega) (by omega) (by omega) (by omega)]; rfl
theorem rp_all (a p s p' s' : Int) : ∃ v : List (List Int) × Bool, (v.2 = decide (((gr a ∧ gk p s) ∧ gk p' s') ∧ ¬ s = s')) ∧ ((((gr a ∧ gk p s) ∧ gk p' s') ∧ ¬ s = s') → v.1 = rpRows (rpL (ringV a p s p' s').2) (rpC a p s (ringV a p s p' s').1 (ringV a p s p' s').2)) ∧ v.1.length ≤ 1000 ∧ (∀ r ∈ v.1, r.length = 2) ∧ (∀ k, 10000000 < k → spec_RingPlaces.f k a p s p' s' = some v) ∧
    ∀ W : World, Calls Tryz.prog 6 #[.int .i64 a, .agg #[.int .i64 p, .int .i64 s], .agg #[.int .i64 p', .int .i64 s']] W fun e w' => ∃ u, e = .returned (.tuple #[u, .bool v.2]) ∧ RRx W w' u v.1 := by
  by_cases good : ((gr a ∧ gk p s) ∧ gk p' s') ∧ ¬ s = s'
  · have gd0 := good
    obtain ⟨⟨⟨ga, g⟩, g'⟩, hne⟩ := good
    obtain ⟨h1, h2⟩ := rp_sp a p s p' s' ga g g' hne
    refine ⟨_, (decide_eq_true gd0).symm, fun _ => rfl, ?_, ?_, rp_spec a p s p' s' ga g g' hne, rp_impl a p s p' s' ga g g' hne⟩
    · simp only [rpRows, List.length_map]; exact rp_len _ _ _ _ _ h2
    · intro r hr; simp only [rpRows, List.mem_map] at hr; obtain ⟨n, _, rfl⟩ := hr; rfl
  · refine ⟨([], false), (decide_eq_false good).symm, fun h => absurd h good, by simp, by simp, fun k hk => ?_, fun W => ?_⟩
    · obtain ⟨k, rfl⟩ : ∃ q, k = q + 1 := ⟨k - 1, by omega⟩
      unfold spec_RingPlaces.f
      rw [e_meRing]
      simp only [Option.bind_some, decide_eq_true_eq, spec_RingPlaces.j0]
      by_cases c : (gr a ∧ gk p s) ∧ gk p' s'
      · have e : s = s' := Classical.byContradiction fun n => good ⟨c, n⟩
        rw [if_pos c, if_pos (by simpa using e)]
      · rw [if_neg c, if_pos trivial]
    · by_cases c0 : gr a
      · by_cases c1 : gk p s
        · by_cases c2 : gk p' s'
          · have e : s = s' := Classical.byContradiction fun n => good ⟨⟨⟨c0, c1⟩, c2⟩, n⟩
            subst e
            exact rpP.no4 a p s p' W (by rw [e_isRing, decide_eq_true c0]) (by rw [e_iIsWalker, decide_eq_true c1]) (by rw [e_iIsWalker, decide_eq_true c2])
          · exact rpP.no3 a p s p' s' W (by rw [e_isRing, decide_eq_true c0]) (by rw [e_iIsWalker, decide_eq_true c1]) (by rw [e_iIsWalker, decide_eq_false c2])
        · exact rpP.no2 a p s p' s' W (by rw [e_isRing, decide_eq_true c0]) (by rw [e_iIsWalker, decide_eq_false c1])
      · exact rpP.no1 a p s p' s' W (by rw [e_isRing, decide_eq_false c0])
theorem e_yRows2_l0 (rs : List (List Int)) (hr : ∀ r ∈ rs, r.length = 2) (hl : rs.length ≤ 100000) : ∀ (n i k : Nat), i + n = rs.length → n + 100 < k → laws_yRows.l0 k rs rs (rs.length : Int) (i : Int) = some true := by
  intro n
  induction n with
  | zero =>
    intro i k hi hk
    obtain ⟨k, rfl⟩ : ∃ m, k = m + 1 := ⟨k - 1, by omega⟩
    simp only [laws_yRows.l0]; rw [if_neg (by omega)]
  | succ n ih =>
    intro i k hi hk
    obtain ⟨k, rfl⟩ : ∃ m, k = m + 1 := ⟨k - 1, by omega⟩
    simp only [laws_yRows.l0]
    have h4 : (jg rs (i : Int)).length = 2 := by
      unfold jg
      have hi' : (i : Int).toNat < rs.length := by omega
      rw [List.getD_eq_getElem?_getD, List.getElem?_eq_getElem hi', Option.getD_some]
      exact hr _ (List.getElem_mem hi')
    rw [if_pos (by omega), if_pos (by omega), if_pos (by omega), if_pos (by omega), e_ySame k _ (by omega) (by omega)]
    simp only [Option.bind_some, if_true]
    rw [w64 _ (by omega) (by omega), show ((i : Int) + 1) = ((i + 1 : Nat) : Int) by omega]
    exact ih (i + 1) k (by omega) (by omega)
theorem e_yRows2 (k : Nat) (rs : List (List Int)) (hr : ∀ r ∈ rs, r.length = 2) (hl : rs.length ≤ 100000) (hk : 200000 < k) : laws_yRows.f k rs rs = some true := by
  unfold laws_yRows.f; rw [if_pos rfl]; exact e_yRows2_l0 rs hr hl rs.length 0 k (by omega) (by omega)
theorem an_rt (N : Nat) (hN : 900000000 < N) (a p s p' s' : Int) (v : Int × Int × Bool) (h : rtV a p s p' s' = v) : An 8 #[.int .i64 a, .agg #[.int .i64 p, .int .i64 s], .agg #[.int .i64 p', .int .i64 s']] (.tuple #[.int .i64 v.1, .int .i64 v.2.1, .bool v.2.2]) := fun W => by
  have e := e_iRingTime N a p s p' s' (by omega)
  rw [h] at e
  exact impl_RingTime.calls N a p s p' s' _ _ _ W e
theorem an_rg (N : Nat) (hN : 900000000 < N) (a p s p' s' : Int) (v : Int × Int × Bool) (h : rgV a p s p' s' = v) : An 10 #[.int .i64 a, .agg #[.int .i64 p, .int .i64 s], .agg #[.int .i64 p', .int .i64 s']] (.tuple #[.int .i64 v.1, .int .i64 v.2.1, .bool v.2.2]) := fun W => by
  have e := e_iRingGap N a p s p' s' (by omega)
  rw [h] at e
  exact impl_RingGap.calls N a p s p' s' _ _ _ W e
theorem one_ok (N : Nat) (hN : 900000000 < N) (a p s p' s' num den : Int) (h : rtV a p s p' s' = (num, den, true)) : OneOk N a p s p' s' num den := by
  obtain ⟨⟨⟨ga, g⟩, g'⟩, n0, n1, d0, d1, gc, cr⟩ := rt_ok a p s p' s' num den h
  obtain ⟨q, hq⟩ := rt_apart a p s p' s' num den cr
  unfold gr at ga; unfold gk at g g'
  have m1 := mul_bd a den 1000 1000 (by omega) (by omega) (by omega) (by omega)
  have m2 := abs_mul (p - p') den 2000 1000 (by omega) (by omega)
  have m3 := abs_mul (s - s') num 200 1000 (by omega) (by omega)
  have m4 : 0 < a * den := Int.mul_pos (by omega) (by omega)
  refine ⟨e_yLow N num den d0 (by omega) gc (by omega), n0, by rw [w64 _ (by omega) (by omega)]; omega, ?_⟩
  rw [w64 (a * den) (by omega) (by omega), w64 (p - p') (by omega) (by omega), w64 (s - s') (by omega) (by omega), w64 ((p - p') * den) (by omega) (by omega), w64 ((s - s') * num) (by omega) (by omega), w64 _ (by omega) (by omega)]
  exact Int.tmod_eq_zero_of_dvd ⟨q, hq⟩
theorem gcdL_dvd : ∀ (l : List S25) (g : Nat), gcdL l g ∣ g ∧ ∀ x ∈ l, gcdL l g ∣ x.f1.natAbs := by
  intro l
  induction l with
  | nil => intro g; exact ⟨Nat.dvd_refl _, by simp⟩
  | cons x xs ih =>
    intro g
    obtain ⟨h1, h2⟩ := ih (Nat.gcd g x.f1.natAbs)
    simp only [gcdL]
    refine ⟨Nat.dvd_trans h1 (Nat.gcd_dvd_left _ _), fun y hy => ?_⟩
    rcases List.mem_cons.1 hy with e | e
    · subst e; exact Nat.dvd_trans h1 (Nat.gcd_dvd_right _ _)
    · exact h2 y e
theorem a_all (N : Nat) (hN : 900000000 < N) (a : Int) (l : List S25) (hl : l.length ≤ 200) : AOwes a l := by
  obtain ⟨⟨top, low, on⟩, hv⟩ : ∃ v, asV a l = v := ⟨_, rfl⟩
  refine ⟨N, top, low, on, by rw [e_iAllAtStart N a l (by omega) (by omega), hv], by rw [e_sAllAtStart N a l (by omega) (by omega) (by omega), hv], fun h => ?_⟩
  subst h
  unfold asV at hv
  by_cases c : gr a ∧ ws l
  · rw [if_pos c] at hv
    by_cases g0 : gcdL l 0 = 0
    · rw [if_pos g0] at hv; simp at hv
    · rw [if_neg g0] at hv
      simp only [Prod.mk.injEq, and_true] at hv
      obtain ⟨rfl, rfl⟩ := hv
      have ga := c.1
      unfold gr at ga
      have gle := gcdL_le l 0 (by omega) c.2.2
      have dv := (gcdL_dvd l 0).2
      generalize gcdL l 0 = g at *
      have cr := low_cross a (g : Int) (by omega)
      have lb := low_bd a (g : Int) 1000 (by omega) (by omega) (by omega)
      have nn := lowN_neg a (g : Int) (by omega)
      rw [if_neg (by omega)] at nn
      have gc := low_gcd a (g : Int) (by omega)
      generalize lowN a (g : Int) = top at *
      generalize lowD a (g : Int) = low at *
      have p1 : 0 < low * a := Int.mul_pos (by omega) (by omega)
      have t1 : ¬ top = 0 := fun e => by rw [e] at cr; omega
      have m1 := mul_bd a low 1000 1000 (by omega) (by omega) (by omega) (by omega)
      have e0 : a * low = low * a := Int.mul_comm _ _
      refine ⟨e_yLow N top low (by omega) (by omega) gc (by omega), by omega, by rw [w64 _ (by omega) (by omega)]; omega, fun i hi => ?_⟩
      have hm : l.getD i z25 ∈ l := by rw [List.getD_eq_getElem?_getD, List.getElem?_eq_getElem hi]; exact List.getElem_mem _
      have hk := c.2.2 _ hm
      have hd := dv _ hm
      generalize l.getD i z25 = x at *
      unfold gk at hk
      have m2 := abs_mul x.f1 top 100 1000 (by omega) (by omega)
      rw [w64 (x.f1 * top) (by omega) (by omega), w64 (a * low) (by omega) (by omega)]
      obtain ⟨q, hq⟩ : (g : Int) ∣ x.f1 := Int.ofNat_dvd_left.mpr hd
      refine Int.tmod_eq_zero_of_dvd ⟨q, ?_⟩
      rw [hq]
      grind
  · rw [if_neg c] at hv; simp at hv
theorem cr_wrap (num part wide den cnt : Int) (h1 : 0 ≤ num ∧ num ≤ 1000) (h2 : 0 ≤ part ∧ part ≤ 1000) (h3 : 0 ≤ wide ∧ wide ≤ 1000) (h4 : 0 ≤ den ∧ den ≤ 1000) (h5 : 0 ≤ cnt ∧ cnt ≤ 1000000) : wrap64 (wrap64 (num * part) + wrap64 (wrap64 (cnt * wide) * den)) = num * part + cnt * wide * den := by
  have m1 := mul_bd num part 1000 1000 (by omega) (by omega) (by omega) (by omega)
  have m2 := mul_bd cnt wide 1000000 1000 (by omega) (by omega) (by omega) (by omega)
  have m3 := mul_bd (cnt * wide) den 1000000000 1000 (by omega) (by omega) (by omega) (by omega)
  rw [w64 (num * part) (by omega) (by omega), w64 (cnt * wide) (by omega) (by omega), w64 (cnt * wide * den) (by omega) (by omega), w64 _ (by omega) (by omega)]
theorem rg_ok (a p s p' s' : Int) (c : ((gr a ∧ gk p s) ∧ gk p' s') ∧ ¬ s = s') : rgV a p s p' s' = (lowN a (ringV a p s p' s').2, lowD a (ringV a p s p' s').2, true) := by
  have e : (ringV a p s p' s').2 = ((s - s').natAbs : Int) := by unfold ringV; split <;> simp only <;> omega
  unfold rgV
  rw [if_pos c, e]
theorem rt_low (a p s p' s' : Int) (c : ((gr a ∧ gk p s) ∧ gk p' s') ∧ ¬ s = s') : rtV a p s p' s' = (lowN (ringV a p s p' s').1 (ringV a p s p' s').2, lowD (ringV a p s p' s').1 (ringV a p s p' s').2, true) := by
  obtain ⟨h1, h2⟩ := rp_sp a p s p' s' c.1.1.1 c.1.1.2 c.1.2 c.2
  unfold rtV
  rw [if_pos c.1]
  by_cases c1 : (ringV a p s p' s').1 = 0
  · have z := low_zero (ringV a p s p' s').2 (by omega)
    rw [if_pos c1, c1, z.1, z.2]
  · rw [if_neg c1, if_neg (by omega)]
theorem c_all (N : Nat) (hN : 900000000 < N) (a p s p' s' t : Int) : COwes a p s p' s' t := by
  obtain ⟨⟨count, five⟩, hv⟩ : ∃ v, crV a p s p' s' t = v := ⟨_, rfl⟩
  have eI := e_iCountRing N a p s p' s' t (by omega)
  have eS := e_sCountRing N a p s p' s' t (by omega)
  rw [hv] at eI eS
  refine ⟨count, five, fun W => impl_CountRingMeetings.calls N a p s p' s' t _ _ W eI, fun W => spec_CountRingMeetings.calls N a p s p' s' t _ _ W eS, fun h => ?_⟩
  subst h
  unfold crV at hv
  by_cases c : (((gr a ∧ gk p s) ∧ gk p' s') ∧ ¬ s = s') ∧ 0 ≤ t ∧ t ≤ 1000
  · rw [if_pos c] at hv
    simp only [Prod.mk.injEq, and_true] at hv
    obtain ⟨h1, h2⟩ := rp_sp a p s p' s' c.1.1.1.1 c.1.1.1.2 c.1.1.2 c.1.2
    have ga := c.1.1.1.1
    unfold gr at ga
    have r1 := rt_low a p s p' s' c.1
    have r2 := rg_ok a p s p' s' c.1
    have n1 := low_bd (ringV a p s p' s').1 (ringV a p s p' s').2 1000 (by omega) (by omega) (by omega)
    have n2 := low_bd a (ringV a p s p' s').2 1000 (by omega) (by omega) (by omega)
    have z1 := lowN_neg (ringV a p s p' s').1 (ringV a p s p' s').2 (by omega)
    have z2 := lowN_neg a (ringV a p s p' s').2 (by omega)
    rw [if_neg (by omega)] at z1 z2
    have x1 := low_cross (ringV a p s p' s').1 (ringV a p s p' s').2 (by omega)
    have x2 := low_cross a (ringV a p s p' s').2 (by omega)
    have k := cr_ok a (ringV a p s p' s').1 (ringV a p s p' s').2 t (by omega) (by omega) (by omega) (by omega) _ _ _ _ (by omega) (by omega) x1 x2 count hv.symm
    refine ⟨lowN (ringV a p s p' s').1 (ringV a p s p' s').2, lowD (ringV a p s p' s').1 (ringV a p s p' s').2, lowN a (ringV a p s p' s').2, lowD a (ringV a p s p' s').2, an_rt N hN a p s p' s' _ r1, an_rg N hN a p s p' s' _ r2, k.1, ?_, fun hp => ?_⟩
    · rw [w64 _ (by have := mul_bd t (lowD (ringV a p s p' s').1 (ringV a p s p' s').2) 1000 1000 (by omega) (by omega) (by omega) (by omega); omega) (by have := mul_bd t (lowD (ringV a p s p' s').1 (ringV a p s p' s').2) 1000 1000 (by omega) (by omega) (by omega) (by omega); omega)]
      exact k.2.1
    · have kk := k.2.2 hp
      have m0 := mul_bd t (ringV a p s p' s').2 1000 200 (by omega) (by omega) (by omega) (by omega)
      have cb : count ≤ 1000000 := by
        rw [← hv]
        by_cases d : t * (ringV a p s p' s').2 < (ringV a p s p' s').1
        · rw [if_pos d]; omega
        · rw [if_neg d]
          have q := div_bd (t * (ringV a p s p' s').2 - (ringV a p s p' s').1) a (by omega) (by omega)
          omega
      clear hv k r1 r2 x1 x2 m0
      generalize lowN (ringV a p s p' s').1 (ringV a p s p' s').2 = num at *
      generalize lowD (ringV a p s p' s').1 (ringV a p s p' s').2 = den at *
      generalize lowN a (ringV a p s p' s').2 = wide at *
      generalize lowD a (ringV a p s p' s').2 = part at *
      have m1 := mul_bd t den 1000 1000 (by omega) (by omega) (by omega) (by omega)
      have m2 := mul_bd (t * den) part 1000000 1000 (by omega) (by omega) (by omega) (by omega)
      rw [w64 (count - 1) (by omega) (by omega), cr_wrap num part wide den (count - 1) (by omega) (by omega) (by omega) (by omega) (by omega), cr_wrap num part wide den count (by omega) (by omega) (by omega) (by omega) (by omega), w64 (t * den) (by omega) (by omega), w64 (t * den * part) (by omega) (by omega)]
      exact kk
  · rw [if_neg c] at hv; simp at hv
def fdR (P : Nat → Bool) : Nat → Bool
  | 0 => false
  | n + 1 => fdR P n || P n
theorem fdR_true (P : Nat → Bool) : ∀ (n j : Nat), j < n → P j = true → fdR P n = true := by
  intro n
  induction n with
  | zero => intro j hj; omega
  | succ n ih =>
    intro j hj h
    simp only [fdR]
    by_cases c : j = n
    · subst c; rw [h]; simp
    · rw [ih j (by omega) h]; simp
theorem ok_ok (N : Nat) (hN : 900000000 < N) (a p s p' s' : Int) (good : ((gr a ∧ gk p s) ∧ gk p' s') ∧ ¬ s = s') :
    OkOk N a p s p' s' (lowN (ringV a p s p' s').1 (ringV a p s p' s').2) (lowD (ringV a p s p' s').1 (ringV a p s p' s').2) (lowN a (ringV a p s p' s').2) (lowD a (ringV a p s p' s').2) (rpRows (rpL (ringV a p s p' s').2) (rpC a p s (ringV a p s p' s').1 (ringV a p s p' s').2)) := by
  obtain ⟨h1, h2⟩ := rp_sp a p s p' s' good.1.1.1 good.1.1.2 good.1.2 good.2
  have ga := good.1.1.1
  have g := good.1.1.2
  have g' := good.1.2
  unfold gr at ga
  unfold gk at g g'
  have hsp : (ringV a p s p' s').2 = (if wrap64 (s - s') < 0 then wrap64 (-(wrap64 (s - s'))) else wrap64 (s - s')) := by
    rw [w64 (s - s') (by omega) (by omega), w64 (-(s - s')) (by omega) (by omega)]
    unfold ringV
    by_cases c : s < s'
    · rw [if_pos c, if_pos (by omega)]; simp only; omega
    · rw [if_neg c, if_neg (by omega)]
  obtain ⟨f1, f2, f3, f4, f5⟩ := rpC_facts a p s (ringV a p s p' s').1 (ringV a p s p' s').2 (by omega) (by omega)
  have fl := rp_len a p s (ringV a p s p' s').1 (ringV a p s p' s').2 h2
  generalize rpC a p s (ringV a p s p' s').1 (ringV a p s p' s').2 = C at *
  generalize (ringV a p s p' s').1 = H at *
  generalize (ringV a p s p' s').2 = sp at *
  have n1 := low_bd H sp 1000 (by omega) (by omega) (by omega)
  have n2 := low_bd a sp 1000 (by omega) (by omega) (by omega)
  have z1 := lowN_neg H sp (by omega)
  have z2 := lowN_neg a sp (by omega)
  rw [if_neg (by omega)] at z1 z2
  have x1 := low_cross H sp (by omega)
  have x2 := low_cross a sp (by omega)
  have gc2 := low_gcd a sp (by omega)
  have lt1 := low_lt H a sp (by omega) (by omega)
  generalize lowN H sp = num at *
  generalize lowD H sp = den at *
  generalize lowN a sp = gap at *
  generalize lowD a sp = part at *
  have hlen : (rpRows (rpL sp) C).length = C.length := by simp [rpRows]
  have hrow : ∀ i, i < C.length → ((rpRows (rpL sp) C).getD i []).getD 0 0 = lowN (C.getD i 0) sp ∧ ((rpRows (rpL sp) C).getD i []).getD 1 0 = lowD (C.getD i 0) sp := fun i hi => by
    simp [rpRows, rpL, List.getD_eq_getElem?_getD, hi]
  have hC : ∀ i, i < C.length → 0 ≤ C.getD i 0 ∧ C.getD i 0 < a * sp := fun i hi => f2 _ (by rw [List.getD_eq_getElem?_getD, List.getElem?_eq_getElem hi]; exact List.getElem_mem _)
  have hasp := mul_bd a sp 1000 200 (by omega) (by omega) (by omega) (by omega)
  have hin : ∀ i, i < C.length → (0 ≤ lowN (C.getD i 0) sp ∧ lowN (C.getD i 0) sp ≤ 200000) ∧ (1 ≤ lowD (C.getD i 0) sp ∧ lowD (C.getD i 0) sp ≤ 200000) ∧ lowN (C.getD i 0) sp < a * lowD (C.getD i 0) sp := fun i hi => by
    have hc := hC i hi
    have lb := low_bd (C.getD i 0) sp 200000 (by omega) (by omega) (by omega)
    have li := low_in (C.getD i 0) sp a (by omega) hc.1 hc.2
    omega
  have m1 := mul_bd num part 1000 1000 (by omega) (by omega) (by omega) (by omega)
  have m2 := mul_bd gap den 1000 1000 (by omega) (by omega) (by omega) (by omega)
  have m3 := mul_bd gap sp 1000 200 (by omega) (by omega) (by omega) (by omega)
  have m4 := mul_bd a part 1000 1000 (by omega) (by omega) (by omega) (by omega)
  have m5 := mul_bd a den 1000 1000 (by omega) (by omega) (by omega) (by omega)
  have m6 : 0 < a * den := Int.mul_pos (by omega) (by omega)
  have m7 := abs_mul p den 1000 1000 (by omega) (by omega)
  have m8 := abs_mul s num 100 1000 (by omega) (by omega)
  refine ⟨e_yLow N gap part (by omega) (by omega) gc2 (by omega), by omega, by omega, by rw [w64 _ (by omega) (by omega), w64 _ (by omega) (by omega)]; exact lt1, ⟨sp, hsp, ?_, ?_⟩, fun i hi => ?_, ?_⟩
  · rw [w64 _ (by omega) (by omega), w64 _ (by omega) (by omega), x2]; exact Int.mul_comm _ _
  · rw [hlen]; exact Int.tmod_eq_zero_of_dvd f3
  · rw [hlen] at hi
    obtain ⟨r0, r1⟩ := hrow i hi
    obtain ⟨b0, b1, b2⟩ := hin i hi
    have gc := low_gcd (C.getD i 0) sp (by omega)
    have q1 := mul_bd a (lowD (C.getD i 0) sp) 1000 200000 (by omega) (by omega) (by omega) (by omega)
    refine ⟨_, _, r0, r1, e_yLow N _ _ (by omega) (by omega) gc (by omega), b0.1, by rw [w64 _ (by omega) (by omega)]; exact b2, fun h0 => ?_⟩
    obtain ⟨t0, t1⟩ := hrow (i - 1) (by omega)
    obtain ⟨d0, d1, d2⟩ := hin (i - 1) (by omega)
    refine ⟨_, _, t0, t1, ?_⟩
    have hlt : C.getD (i - 1) 0 < C.getD i 0 := by
      have := List.pairwise_iff_getElem.1 f1 (i - 1) i (by omega) hi (by omega)
      simpa [List.getD_eq_getElem?_getD, hi, show i - 1 < C.length by omega] using this
    have q2 := mul_bd (lowN (C.getD (i - 1) 0) sp) (lowD (C.getD i 0) sp) 200000 200000 (by omega) (by omega) (by omega) (by omega)
    have q3 := mul_bd (lowN (C.getD i 0) sp) (lowD (C.getD (i - 1) 0) sp) 200000 200000 (by omega) (by omega) (by omega) (by omega)
    rw [w64 _ (by omega) (by omega), w64 _ (by omega) (by omega)]
    exact low_lt _ _ sp (by omega) hlt
  · obtain ⟨rs, hrs⟩ : ∃ rs, rpRows (rpL sp) C = rs := ⟨_, rfl⟩
    rw [hrs] at hlen hrow ⊢
    let P : Nat → Bool := fun i => decide (Int.tmod (wrap64 (wrap64 (wrap64 (wrap64 (p * den) + wrap64 (s * num)) * ((rs.getD i []).getD 1 0)) - wrap64 (((rs.getD i []).getD 0 0) * den))) (wrap64 (wrap64 (a * den) * ((rs.getD i []).getD 1 0))) = 0)
    have hM : ∀ i, i < C.length → wrap64 (wrap64 (a * den) * ((rs.getD i []).getD 1 0)) = a * den * lowD (C.getD i 0) sp ∧ 1 ≤ a * den * lowD (C.getD i 0) sp := fun i hi => by
      obtain ⟨r0, r1⟩ := hrow i hi
      obtain ⟨b0, b1, b2⟩ := hin i hi
      rw [r1]
      have q1 := mul_bd (a * den) (lowD (C.getD i 0) sp) 1000000 200000 (by omega) (by omega) (by omega) (by omega)
      have q2 : 0 < (a * den) * lowD (C.getD i 0) sp := Int.mul_pos m6 (by omega)
      rw [w64 (a * den) (by omega) (by omega), w64 _ (by omega) (by omega)]
      exact ⟨rfl, by omega⟩
    refine ⟨fdR P, rfl, ?_, fun i hi => ⟨_, _, rfl, rfl, ?_, rfl⟩⟩
    · obtain ⟨j, hj, ej⟩ := List.mem_iff_getElem.1 f5
      rw [hlen]
      refine fdR_true P C.length j hj ?_
      obtain ⟨r0, r1⟩ := hrow j hj
      obtain ⟨b0, b1, b2⟩ := hin j hj
      have e1 := (hM j hj).1
      have ec : C.getD j 0 = (p * sp + s * H) % (a * sp) := by rw [List.getD_eq_getElem?_getD, List.getElem?_eq_getElem hj, Option.getD_some, ej]
      show decide _ = true
      refine decide_eq_true ?_
      have c3 := low_cross (C.getD j 0) sp (by omega)
      have k := ring_found a p s H sp num den (C.getD j 0) (lowN (C.getD j 0) sp) (lowD (C.getD j 0) sp) ((p * sp + s * H) / (a * sp)) (by omega) x1 (by rw [ec]; exact (Int.mul_ediv_add_emod _ _).symm) c3
      rw [e1, r0, r1]
      have q4 := abs_mul (p * den + s * num) (lowD (C.getD j 0) sp) 1100000 200000 (by omega) (by omega)
      have q5 := mul_bd (lowN (C.getD j 0) sp) den 200000 1000 (by omega) (by omega) (by omega) (by omega)
      rw [w64 (p * den) (by omega) (by omega), w64 (s * num) (by omega) (by omega), w64 (p * den + s * num) (by omega) (by omega), w64 ((p * den + s * num) * _) (by omega) (by omega), w64 (lowN (C.getD j 0) sp * den) (by omega) (by omega), w64 _ (by omega) (by omega)]
      exact Int.tmod_eq_zero_of_dvd ⟨_, k⟩
    · rw [hlen] at hi
      have := hM i hi
      rw [this.1]; exact this.2
theorem r_all (N : Nat) (hN : 900000000 < N) (a p s p' s' : Int) : ROwes a p s p' s' := by
  obtain ⟨⟨rs, ok⟩, hok, hrs, hl, h2, hS, hI⟩ := rp_all a p s p' s'
  simp only at hok hrs hl h2
  obtain ⟨⟨num, den, one⟩, ht⟩ : ∃ v, rtV a p s p' s' = v := ⟨_, rfl⟩
  obtain ⟨⟨gap, part, k⟩, hg⟩ : ∃ v, rgV a p s p' s' = v := ⟨_, rfl⟩
  have hk : k = ok := by
    have : (rgV a p s p' s').2.2 = decide (((gr a ∧ gk p s) ∧ gk p' s') ∧ ¬ s = s') := by
      unfold rgV
      by_cases c : ((gr a ∧ gk p s) ∧ gk p' s') ∧ ¬ s = s'
      · rw [if_pos c, decide_eq_true c]
      · rw [if_neg c, decide_eq_false c]
    rw [hg] at this
    rw [hok]; exact this
  subst hk
  have eS1 := e_sRingTime N a p s p' s' (by omega)
  rw [ht] at eS1
  have eS2 := e_sRingGap N a p s p' s' (by omega)
  rw [hg] at eS2
  refine ⟨N, rs, num, den, gap, part, k, one, hI, hS N (by omega), an_rt N hN a p s p' s' _ ht, fun W => spec_RingTime.calls N a p s p' s' _ _ _ W eS1, an_rg N hN a p s p' s' _ hg, fun W => spec_RingGap.calls N a p s p' s' _ _ _ W eS2, e_yRows2 N rs h2 (by omega) (by omega), fun h => ?_, fun h => ?_, fun h => ?_⟩
  · have good := of_decide_eq_true (hok.symm.trans h)
    have e := rt_low a p s p' s' good
    rw [ht] at e
    simp only [Prod.mk.injEq] at e
    exact e.2.2
  · subst h; exact one_ok N hN a p s p' s' num den ht
  · have good := of_decide_eq_true (hok.symm.trans h)
    have e := rt_low a p s p' s' good
    rw [ht] at e
    simp only [Prod.mk.injEq] at e
    obtain ⟨rfl, rfl, _⟩ := e
    have e := rg_ok a p s p' s' good
    rw [hg] at e
    simp only [Prod.mk.injEq] at e
    obtain ⟨rfl, rfl, _⟩ := e
    rw [hrs good]
    exact ok_ok N hN a p s p' s' good
theorem posn_spec (lt : Nat → Nat → Bool) (x : Nat) (o : List Nat) : ∀ k, k ≤ o.length → (∀ i, posn lt x o k ≤ i → i < k → lt x (o.getD i 0) = true) ∧ (0 < posn lt x o k → lt x (o.getD (posn lt x o k - 1) 0) = false) := by
  intro k
  induction k with
  | zero => intro _; exact ⟨fun i _ h => by omega, fun h => by simp [posn] at h⟩
  | succ k ih =>
    intro hk
    obtain ⟨h1, h2⟩ := ih (by omega)
    by_cases c : lt x (o.getD k 0) = true
    · have e : posn lt x o (k + 1) = posn lt x o k := by simp only [posn]; rw [if_pos c]
      rw [e]
      refine ⟨fun i hi hik => ?_, h2⟩
      by_cases ce : i = k
      · subst ce; exact c
      · exact h1 i hi (by omega)
    · have e : posn lt x o (k + 1) = k + 1 := by simp only [posn]; rw [if_neg c]
      rw [e]
      exact ⟨fun i hi hik => by omega, fun _ => by simpa using c⟩
theorem ordN_sorted (lt : Nat → Nat → Bool) (hAs : ∀ x y, lt x y = true → lt y x = false) (nt : ∀ x b y, lt x b = false → lt b y = false → lt x y = false) : ∀ n, (ordN lt n).Pairwise (fun x y => lt y x = false ∧ (lt x y = true ∨ x < y)) := by
  intro n
  induction n with
  | zero => exact List.Pairwise.nil
  | succ n ih =>
    have hlen := ordN_len lt n
    have hlt := ordN_lt lt n
    obtain ⟨s1, s2⟩ := posn_spec lt n (ordN lt n) n (by omega)
    simp only [ordN, insN]
    generalize ordN lt n = o at *
    have hq := posn_le lt n o n
    generalize posn lt n o n = q at *
    have hdrop : ∀ y ∈ o.drop q, lt n y = true := fun y hy => by
      obtain ⟨j, hj, e⟩ := List.mem_iff_getElem.1 hy
      rw [List.length_drop] at hj
      rw [List.getElem_drop] at e
      have := s1 (q + j) (by omega) (by omega)
      rw [List.getD_eq_getElem?_getD, List.getElem?_eq_getElem (by omega), Option.getD_some, e] at this
      exact this
    have htake : ∀ a ∈ o.take q, lt n a = false := fun a ha => by
      obtain ⟨j, hj, e⟩ := List.mem_iff_getElem.1 ha
      rw [List.length_take] at hj
      rw [List.getElem_take] at e
      have hb := s2 (by omega)
      rw [List.getD_eq_getElem?_getD, List.getElem?_eq_getElem (by omega), Option.getD_some] at hb
      by_cases c : j = q - 1
      · subst c; rw [e] at hb; exact hb
      · have := (List.pairwise_iff_getElem.1 ih j (q - 1) (by omega) (by omega) (by omega)).1
        rw [e] at this
        exact nt _ _ _ hb this
    have ih' := ih
    rw [← List.take_append_drop q o, List.pairwise_append] at ih'
    rw [List.pairwise_append, List.pairwise_cons]
    refine ⟨ih'.1, ⟨fun y hy => ⟨hAs _ _ (hdrop y hy), .inl (hdrop y hy)⟩, ih'.2.1⟩, fun a ha y hy => ?_⟩
    rcases List.mem_cons.1 hy with e | e
    · subst e
      exact ⟨htake a ha, .inr (hlt a (List.mem_of_mem_take ha))⟩
    · exact ih'.2.2 a ha y e
theorem ordN_perm (lt : Nat → Nat → Bool) : ∀ n, (ordN lt n).Perm (List.range n) := by
  intro n
  induction n with
  | zero => exact List.Perm.nil
  | succ n ih =>
    simp only [ordN, insN]
    have h1 : ((ordN lt n).take (posn lt n (ordN lt n) n) ++ n :: (ordN lt n).drop (posn lt n (ordN lt n) n)).Perm (n :: ordN lt n) := by
      have := List.perm_middle (a := n) (l₁ := (ordN lt n).take (posn lt n (ordN lt n) n)) (l₂ := (ordN lt n).drop (posn lt n (ordN lt n) n))
      rwa [List.take_append_drop] at this
    rw [List.range_succ]
    exact h1.trans ((List.Perm.cons n ih).trans (List.perm_append_singleton n (List.range n)).symm)
theorem e_yHas_l0 (r : List Int) (x : Int) (hl : r.length ≤ 100000) : ∀ (m i k : Nat), i + m = r.length → m < k → (∃ j, i ≤ j ∧ j < r.length ∧ r.getD j 0 = x) → laws_yHas.l0 k x r (r.length : Int) (i : Int) = some true := by
  intro m
  induction m with
  | zero => intro i k hi hk ⟨j, h1, h2, _⟩; omega
  | succ m ih =>
    intro i k hi hk ⟨j, h1, h2, h3⟩
    obtain ⟨k, rfl⟩ : ∃ q, k = q + 1 := ⟨k - 1, by omega⟩
    simp only [laws_yHas.l0]
    rw [if_pos (by omega), if_pos (by omega), if_pos (by omega)]
    have e : rd r (i : Int) = r.getD i 0 := by unfold rd; simp
    rw [e]
    by_cases c : r.getD i 0 = x
    · rw [if_pos c]
    · rw [if_neg c, w64 _ (by omega) (by omega), show ((i : Int) + 1) = ((i + 1 : Nat) : Int) by omega]
      refine ih (i + 1) k (by omega) (by omega) ⟨j, ?_, h2, h3⟩
      by_cases ce : j = i
      · subst ce; exact absurd h3 c
      · omega
theorem e_yHas (k : Nat) (r : List Int) (x : Int) (hx : x ∈ r) (hl : r.length ≤ 100000) (hk : r.length < k) : laws_yHas.f k r x = some true := by
  unfold laws_yHas.f
  obtain ⟨j, hj, e⟩ := List.mem_iff_getElem.1 hx
  exact e_yHas_l0 r x hl r.length 0 k (by omega) hk ⟨j, by omega, hj, by rw [List.getD_eq_getElem?_getD, List.getElem?_eq_getElem hj, Option.getD_some, e]⟩
theorem e_yOnce_l0 (r : List Int) (hl : r.length ≤ 100000) (hm : ∀ i : Nat, i < r.length → (i : Int) ∈ r) : ∀ (m i k : Nat), i + m = r.length → m + r.length + 5 < k → laws_yOnce.l0 k r (r.length : Int) (i : Int) = some true := by
  intro m
  induction m with
  | zero =>
    intro i k hi hk
    obtain ⟨k, rfl⟩ : ∃ q, k = q + 1 := ⟨k - 1, by omega⟩
    simp only [laws_yOnce.l0]; rw [if_neg (by omega)]
  | succ m ih =>
    intro i k hi hk
    obtain ⟨k, rfl⟩ : ∃ q, k = q + 1 := ⟨k - 1, by omega⟩
    simp only [laws_yOnce.l0]
    rw [if_pos (by omega), e_yHas k r _ (hm i (by omega)) hl (by omega)]
    simp only [Option.bind_some, if_true]
    rw [w64 _ (by omega) (by omega), show ((i : Int) + 1) = ((i + 1 : Nat) : Int) by omega]
    exact ih (i + 1) k (by omega) (by omega)
theorem e_yOnce (k : Nat) (lt : Nat → Nat → Bool) (n : Nat) (hn : n ≤ 100000) (hk : 300000 < k) : laws_yOnce.f k ((ordN lt n).map fun x : Nat => (x : Int)) (n : Int) = some true := by
  have hl : ((ordN lt n).map fun x : Nat => (x : Int)).length = n := by rw [List.length_map, ordN_len]
  unfold laws_yOnce.f
  rw [if_pos (by rw [hl])]
  have h := e_yOnce_l0 ((ordN lt n).map fun x : Nat => (x : Int)) (by omega) (fun i hi => List.mem_map.2 ⟨i, (ordN_perm lt n).mem_iff.2 (List.mem_range.2 (by omega)), rfl⟩) n 0 k (by omega) (by omega)
  rw [hl] at h
  exact h
theorem ordI (lt : Nat → Nat → Bool) (n i : Nat) (hi : i < n) : ((ordN lt n).map fun x : Nat => (x : Int)).getD i 0 = (((ordN lt n).getD i 0 : Nat) : Int) ∧ (ordN lt n).getD i 0 < n := by
  have hl := ordN_len lt n
  refine ⟨by simp [List.getD_eq_getElem?_getD, hl, hi], ?_⟩
  rw [List.getD_eq_getElem?_getD, List.getElem?_eq_getElem (by omega), Option.getD_some]
  exact ordN_lt lt n _ (List.getElem_mem _)
theorem wat_form (l : List S25) (hl : (l.length : Int) ≤ 1048576) (m n : Int) (v : List Int × Bool) (h : impl_WalkersAt.f l m n = some v) (h2 : v.2 = true) : ws l ∧ v.1 = orderV (fun x y => cmp3 (plV m n x) (plV m n y)) l := by
  unfold impl_WalkersAt.f at h
  rw [e_AreWalkers l (by omega), e_isTime] at h
  by_cases hw : ws l
  · by_cases ht : gt m n
    · simp only [decide_eq_true hw, decide_eq_true ht, Option.bind_some, if_true, Option.some.injEq] at h
      subst h
      exact ⟨hw, rfl⟩
    · simp [hw, ht] at h; subst h; simp at h2
  · simp [hw] at h; subst h; simp at h2
theorem lor_form (l : List S25) (hl : (l.length : Int) ≤ 1048576) (v : List Int × Bool) (h : impl_LastOrder.f l = some v) : v.2 = decide (ws l) ∧ (ws l → v.1 = orderV lexV l) := by
  unfold impl_LastOrder.f at h
  rw [e_AreWalkers l (by omega)] at h
  by_cases hw : ws l
  · simp only [decide_eq_true hw, Option.bind_some, if_true, Option.some.injEq] at h
    subst h
    exact ⟨by simp [hw], fun _ => rfl⟩
  · simp [hw] at h; subst h
    exact ⟨by simp [hw], fun h => absurd h hw⟩
theorem w_all (N : Nat) (hN : 900000000 < N) (l : List S25) (m n : Int) (hl : l.length ≤ 200) : WOwes l m n := by
  obtain ⟨v, hvl, hI, K, hK⟩ := wat_all l (by omega) m n
  refine ⟨K + N, v.1, v.2, hI, hK _ (by omega), e_ySame _ _ (by omega) (by omega), fun h => ?_⟩
  obtain ⟨hw, hv⟩ := wat_form l (by omega) m n v hI h
  have h1 : 1 ≤ l.length := by have := hw.1; omega
  rw [hv, orderV_ord _ l h1]
  obtain ⟨lt, hlt⟩ : ∃ lt : Nat → Nat → Bool, (fun i k => decide (cmp3 (plV m n (l.getD i z25)) (plV m n (l.getD k z25)) < 0)) = lt := ⟨_, rfl⟩
  have hF : ∀ i k, lt i k = decide (plV m n (l.getD i z25) < plV m n (l.getD k z25)) := fun i k => by
    rw [← hlt]; exact decide_eq_decide.mpr (cmp3_neg _ _)
  rw [hlt]
  have hs := ordN_sorted lt (fun x y h => by rw [hF] at h ⊢; exact decide_eq_false (by have := of_decide_eq_true h; omega)) (fun x b y h1 h2 => by rw [hF] at h1 h2 ⊢; exact decide_eq_false (by have := of_decide_eq_false h1; have := of_decide_eq_false h2; omega)) l.length
  have hlen := ordN_len lt l.length
  have hml : ((ordN lt l.length).map fun x : Nat => (x : Int)).length = l.length := by rw [List.length_map, hlen]
  refine ⟨e_yOnce _ lt l.length (by omega) (by omega), by omega, fun i hi => ?_, fun i hi0 hi => ?_⟩
  · rw [hml] at hi
    obtain ⟨e1, e2⟩ := ordI lt l.length i hi
    rw [e1]; omega
  · rw [hml] at hi
    obtain ⟨e1, e2⟩ := ordI lt l.length i hi
    obtain ⟨e3, e4⟩ := ordI lt l.length (i - 1) (by omega)
    have hp := List.pairwise_iff_getElem.1 hs (i - 1) i (by omega) (by omega) (by omega)
    have g1 : (ordN lt l.length).getD i 0 = (ordN lt l.length)[i]'(by omega) := by rw [List.getD_eq_getElem?_getD, List.getElem?_eq_getElem (by omega), Option.getD_some]
    have g2 : (ordN lt l.length).getD (i - 1) 0 = (ordN lt l.length)[i - 1]'(by omega) := by rw [List.getD_eq_getElem?_getD, List.getElem?_eq_getElem (by omega), Option.getD_some]
    rw [← g1, ← g2] at hp
    rw [e1, e3]
    generalize (ordN lt l.length).getD i 0 = y at *
    generalize (ordN lt l.length).getD (i - 1) 0 = x at *
    have p1 : ∀ w : Nat, plW l m n (w : Int) = plV m n (l.getD w z25) := fun w => by unfold plW plV; rw [show ((w : Int)).toNat = w by omega]
    rw [p1, p1]
    rw [hF, hF] at hp
    have q1 := of_decide_eq_false hp.1
    refine ⟨q1, fun he => ?_⟩
    rcases hp.2 with z | z
    · have := of_decide_eq_true z; omega
    · omega
theorem last_is (c : Nat) (q : List Nat) : ((c :: q).map fun x : Nat => (x : Int)).getD (((c :: q).map fun x : Nat => (x : Int)).length - 1) 0 = (((c :: q).getLast (by simp) : Nat) : Int) := by
  rw [List.getLast_eq_getElem]
  have hl : (c :: q).length - 1 < (c :: q).length := by simp
  rw [List.getD_eq_getElem?_getD, List.length_map, List.getElem?_eq_getElem (by rw [List.length_map]; exact hl), Option.getD_some, List.getElem_map]
theorem cgetD (q : List Nat) (i : Nat) (hi : i < q.length) : (q.map fun x : Nat => (x : Int)).getD i 0 = ((q[i] : Nat) : Int) := by
  simp [List.getD_eq_getElem?_getD, hi]
theorem g_all (N : Nat) (hN : 900000000 < N) (l : List S25) (hl : l.length ≤ 200) : GOwes l := by
  obtain ⟨v, v9, v2, vf, K1, hK1⟩ := lead_all2 l (by omega)
  obtain ⟨u, u9, uI, K2, hK2⟩ := lor_all l (by omega)
  obtain ⟨f1, f2⟩ := lor_form l (by omega) u uI
  have e2 : u.2 = v.2 := f1.trans v2.symm
  have kI := hK1 (K1 + K2 + N) (by omega)
  have kS := hK2 (K1 + K2 + N) (by omega)
  refine ⟨K1 + K2 + N, v.1, u.1, v.2, kI.1, kI.2, e_ySame _ _ (by omega) (by omega), by rw [uI, ← e2], by rw [kS, ← e2], e_ySame _ _ (by omega) (by omega), fun h => ?_⟩
  have hw : ws l := of_decide_eq_true (v2.symm.trans h)
  obtain ⟨c, q, hv, hq⟩ := vf hw
  have hu := f2 hw
  have h1 : 1 ≤ l.length := by have := hw.1; omega
  rw [orderV_ord _ l h1] at hu
  obtain ⟨lt, hlt⟩ : ∃ lt : Nat → Nat → Bool, (fun i k => decide (lexV (l.getD i z25) (l.getD k z25) < 0)) = lt := ⟨_, rfl⟩
  have hF : ∀ i k, lt i k = decide ((l.getD i z25).f1 < (l.getD k z25).f1 ∨ (l.getD i z25).f1 = (l.getD k z25).f1 ∧ (l.getD i z25).f0 < (l.getD k z25).f0) := fun i k => by
    rw [← hlt]; exact decide_eq_decide.mpr (lexV_neg _ _)
  rw [hlt] at hu
  have hs := ordN_sorted lt (fun x y h => by rw [hF] at h ⊢; exact decide_eq_false (by have := of_decide_eq_true h; omega)) (fun x b y h1 h2 => by rw [hF] at h1 h2 ⊢; exact decide_eq_false (by have := of_decide_eq_false h1; have := of_decide_eq_false h2; omega)) l.length
  have hlen := ordN_len lt l.length
  have hul : u.1.length = l.length := by rw [hu, List.length_map, hlen]
  have hvl : v.1.length = q.length + 1 := by rw [hv]; simp
  obtain ⟨g1, g2, g3, g4⟩ := hq
  have hlast := last_is c q
  rw [← hv] at hlast
  have hmem : (c :: q).getLast (by simp) < l.length := g1 _ (List.getLast_mem _)
  refine ⟨by rw [hu]; exact e_yOnce _ lt l.length (by omega) (by omega), by omega, by omega, by omega, by omega, fun i hi => ?_, fun i hi => ?_, fun i hi0 hi => ?_, fun i hi => ?_, ?_⟩
  · rw [hvl] at hi
    rw [hv, cgetD (c :: q) i (by simpa using hi)]
    have := g1 _ (List.getElem_mem (l := c :: q) (by simpa using hi))
    omega
  · rw [hul] at hi
    obtain ⟨e1, e2⟩ := ordI lt l.length i hi
    rw [hu, e1]; omega
  · rw [hvl] at hi
    rw [hv, cgetD (c :: q) i (by simpa using hi), cgetD (c :: q) (i - 1) (by simp; omega)]
    have := List.pairwise_iff_getElem.1 g2 (i - 1) i (by simp; omega) (by simpa using hi) (by omega)
    simpa [wk] using this
  · have h0 : v.1.getD 0 0 = ((c : Nat) : Int) := by rw [hv]; rfl
    rw [hlast, h0]
    have a1 := (g4 i hi).1
    have a2 := g3 i hi
    unfold wk at a1 a2
    simp only [Int.toNat_natCast]
    exact ⟨a1, a2⟩
  · rw [hlast]
    have hx : u.1.getD (u.1.length - 1) 0 = (((ordN lt l.length).getD (l.length - 1) 0 : Nat) : Int) ∧ (ordN lt l.length).getD (l.length - 1) 0 < l.length := by
      obtain ⟨e1, e2⟩ := ordI lt l.length (l.length - 1) (by omega)
      rw [hul, hu]
      exact ⟨e1, e2⟩
    rw [hx.1]
    have hmax : ∀ i, i < l.length → lt ((ordN lt l.length).getD (l.length - 1) 0) i = false := fun i hi => by
      have hm : i ∈ ordN lt l.length := (ordN_perm lt l.length).mem_iff.2 (List.mem_range.2 hi)
      obtain ⟨j, hj, e⟩ := List.mem_iff_getElem.1 hm
      have eL : (ordN lt l.length).getD (l.length - 1) 0 = (ordN lt l.length)[l.length - 1]'(by omega) := by rw [List.getD_eq_getElem?_getD, List.getElem?_eq_getElem (by omega), Option.getD_some]
      rw [eL, ← e]
      by_cases cj : j = l.length - 1
      · subst cj; rw [hF]; exact decide_eq_false (by omega)
      · exact (List.pairwise_iff_getElem.1 hs j (l.length - 1) hj (by omega) (by omega)).1
    generalize (ordN lt l.length).getD (l.length - 1) 0 = x at *
    generalize (c :: q).getLast (by simp) = y at *
    have m1 := hmax y hmem
    rw [hF] at m1
    have m2 := of_decide_eq_false m1
    obtain ⟨a1, a2⟩ := g4 x hx.2
    unfold wk at a1 a2
    simp only [Int.toNat_natCast]
    generalize l.getD x z25 = X at *
    generalize l.getD y z25 = Y at *
    have b1 : X.f1 = Y.f1 := by omega
    have b2 := a2 b1
    have b3 : X.f0 = Y.f0 := by omega
    cases X; cases Y
    simp only at b1 b3
    subst b1; subst b3; rfl
theorem bigF (Ac Am : Option Addr) (cc cm : Nat) (lc lm : List Int) (h : (lc.length : Int) + (lm.length : Int) ≤ 1048576) (W : World) (hr1 : Kd.C (Kd.int .u8) W Ac lc.length lc) (hc1 : lc.length ≤ cc) (hr2 : Kd.C (Kd.int .u8) W Am lm.length lm) (hc2 : lm.length ≤ cm) : Calls Tryz.prog 4 #[.slice Ac lc.length cc, .slice Am lm.length cm] W fun e w' => e = .returned (.bool false) ∧ Below W.heap.size W w' := by
  have e : laws_big.f lc lm = some false := by
    unfold laws_big.f
    rw [w64 _ (by omega) (by omega)]
    first | (rw [if_neg (by omega)]; simp; omega) | (simp; omega)
  exact (laws_big.calls Ac cc lc Am cm lm false W hr1 hc1 hr2 hc2 e).mono (fun e w' h => ⟨h.1, h.2.below⟩)
theorem bigT (Ac Am : Option Addr) (cc cm : Nat) (lc lm : List Int) (h : ¬ (lc.length : Int) + (lm.length : Int) ≤ 1048576) (hm1 : lc.length ≤ 1000000000000000) (hm2 : lm.length ≤ 1000000000000000) (W : World) (hr1 : Kd.C (Kd.int .u8) W Ac lc.length lc) (hc1 : lc.length ≤ cc) (hr2 : Kd.C (Kd.int .u8) W Am lm.length lm) (hc2 : lm.length ≤ cm) : Calls Tryz.prog 4 #[.slice Ac lc.length cc, .slice Am lm.length cm] W fun e w' => e = .returned (.bool true) ∧ Below W.heap.size W w' := by
  have e : laws_big.f lc lm = some true := by
    unfold laws_big.f
    by_cases c : (lc.length : Int) > 1048576
    · rw [if_pos c]
    · rw [if_neg c, w64 _ (by omega) (by omega)]; simp; omega
  exact (laws_big.calls Ac cc lc Am cm lm true W hr1 hc1 hr2 hc2 e).mono (fun e w' h => ⟨h.1, h.2.below⟩)
set_option maxHeartbeats 2000000 in
set_option maxRecDepth 100000 in
theorem law_bigT (Ac Am : Option Addr) (cc cm : Nat) (lc lm : List Int) (w0 : World) (hb : Calls Tryz.prog 4 #[.slice Ac lc.length cc, .slice Am lm.length cm] w0 fun e w' => e = .returned (.bool true) ∧ Below w0.heap.size w0 w') :
    Calls Tryz.prog 3 #[.slice Ac lc.length cc, .slice Am lm.length cm] w0 fun e w' => e = .returned (.bool true) ∧ Below w0.heap.size w0 w' := by
  have HB := jb.mk hb
  clear hb
  go_enter Tryz.func3, Tryz.ntmps3
  go_wp2_with (go_at_call 4; (with_reducible refine HB.out.mono ?_); rintro e w1 ⟨rfl, h1⟩; have H1 := jb.mk h1; clear h1)
  go_ret
  exact ⟨rfl, H1.out⟩
theorem code8 (l : List Int) (hw : ∀ x ∈ l, (Lit.int .u8 x).wf = true) (hl : (l.length : Int) ≤ 1048576) : DrawP.Code8 l := ⟨fun x hx => by
  have := hw x hx
  simp [Lit.wf] at this
  have e1 : IntKind.u8.min = 0 := by decide
  have e2 : IntKind.u8.max = 255 := by decide
  rw [e1, e2] at this
  simpa using this, by omega⟩
theorem FnWalkersRound_all (Ac : Option Addr) (cc : Nat) (lc : List Int) (Am : Option Addr) (cm : Nat) (lm : List Int) (w0 : World) (hr1 : Kd.C (Kd.int .u8) w0 Ac lc.length lc) (hc1 : lc.length ≤ cc) (hr2 : Kd.C (Kd.int .u8) w0 Am lm.length lm) (hc2 : lm.length ≤ cm)
    (hm1 : lc.length ≤ maxLen) (hy1 : lc.length * 1 ≤ 140737488351232) (hw1 : ∀ x ∈ lc, (Lit.int .u8 x).wf = true) (hm2 : lm.length ≤ maxLen) (hy2 : lm.length * 1 ≤ 140737488351232) (hw2 : ∀ x ∈ lm, (Lit.int .u8 x).wf = true) :
    Calls Tryz.prog 3 #[.slice Ac lc.length cc, .slice Am lm.length cm] w0 fun e w' => e = .returned (.bool true) ∧ Below w0.heap.size w0 w' := by
  by_cases h : (lc.length : Int) + (lm.length : Int) ≤ 1048576
  · obtain ⟨N, hN⟩ : ∃ N, 999999997 ≤ N := ⟨999999997, by omega⟩
    exact roundA Ac Am cc cm lc lm w0 (fun W hW => bigF Ac Am cc cm lc lm h W (Kd.C_below hr1 hW) hc1 (Kd.C_below hr2 hW) hc2)
      (fun W hW => DrawP.drawRP Ac cc lc (code8 lc hw1 (by omega)) W (Kd.C_below hr1 hW)) (fun W hW => DrawP.drawCR Am cm lm (code8 lm hw2 (by omega)) W (Kd.C_below hr2 hW))
      (fun W hW => DrawP.drawWsA Am cm lm (code8 lm hw2 (by omega)) W (Kd.C_below hr2 hW)) (fun W hW => DrawP.drawLO Am cm lm (code8 lm hw2 (by omega)) W (Kd.C_below hr2 hW))
      (fun W hW => DrawP.drawAS Am cm lm (code8 lm hw2 (by omega)) W (Kd.C_below hr2 hW))
      (r_all N (by omega)) (c_all N (by omega)) (w_all N (by omega)) (g_all N (by omega)) (a_all N (by omega))
  · exact law_bigT Ac Am cc cm lc lm w0 (bigT Ac Am cc cm lc lm h (by omega) (by omega) w0 hr1 hc1 hr2 hc2)


end Go.Proofs.YtfaccdafldbjcaaGreat.Pure
