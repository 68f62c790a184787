/- The pure statement of the law FnWalkersMeet: what the program's function computes is what the reference's computes. -/
import Derived.Test.YtoideilmkcpilaaGreatDoorMeetA
namespace Go.Proofs.YtoideilmkcpilaaGreatDoor.Pure
open Go.RowKit Go.Proofs.YtoideilmkcpilaaGreatDoor.Tx Go.Proofs.YtoideilmkcpilaaGreatDoor.OFnWalkersMeet Go.Proofs.YtoideilmkcpilaaGreatDoorW.PrintWords Go.Proofs.YtoideilmkcpilaaGreatDoorW.PrintLast Go.Proofs.YtoideilmkcpilaaGreatDoorW.PrintMore
set_option linter.unusedVariables false
set_option linter.unusedSimpArgs false
theorem w64 (n : Int) (h1 : -9223372036854775808 ≤ n) (h2 : n ≤ 9223372036854775807) : wrap64 n = n := by unfold wrap64; omega
theorem le_cases (a b c : Int) : (if a ≥ b then some (decide (a ≤ c)) else some false) = some (decide (b ≤ a ∧ a ≤ c)) := by
  by_cases h : b ≤ a <;> by_cases h' : a ≤ c <;> simp [h, h']
def gk (p s : Int) : Prop := -1000 ≤ p ∧ p ≤ 1000 ∧ -100 ≤ s ∧ s ≤ 100
instance (p s : Int) : Decidable (gk p s) := by unfold gk; infer_instance
theorem mul_bd (a b A B : Int) (h1 : 0 ≤ a) (h2 : a ≤ A) (h3 : 0 ≤ b) (h4 : b ≤ B) : 0 ≤ a * b ∧ a * b ≤ A * B :=
  ⟨Int.mul_nonneg h1 h3, Int.mul_le_mul h2 h4 h3 (by omega)⟩
theorem e_within (a b c : Int) : impl_within.f a b c = some (decide (b ≤ a ∧ a ≤ c)) := by
  unfold impl_within.f; exact le_cases a b c
theorem e_l1In (a b c : Int) : spec_l1In.f a b c = some (decide (b ≤ a ∧ a ≤ c)) := by
  unfold spec_l1In.f; exact le_cases a b c
theorem e_iIsWalker (u d : Int) : impl_IsWalker.f u d = some (decide (gk u d)) := by
  unfold impl_IsWalker.f; simp only [e_within, Option.bind_some]
  by_cases h : -1000 ≤ u ∧ u ≤ 1000 <;> by_cases h' : -100 ≤ d ∧ d ≤ 100 <;> simp [gk, h, h'] <;> omega
theorem e_meGood (u d : Int) : spec_meGood.f u d = some (decide (gk u d)) := by
  unfold spec_meGood.f; simp only [e_l1In, Option.bind_some]
  by_cases h : -1000 ≤ u ∧ u ≤ 1000 <;> by_cases h' : -100 ≤ d ∧ d ≤ 100 <;> simp [gk, h, h'] <;> omega
theorem e_sIsWalker (u d : Int) : spec_IsWalker.f u d = some (decide (gk u d)) := by
  unfold spec_IsWalker.f; simp only [e_meGood, Option.bind_some]
theorem abs_mx (a : Int) : mx a (-a) = (a.natAbs : Int) := by unfold mx; split <;> omega
theorem gcd_pos (num den : Int) (h : den ≠ 0) : 0 < (Int.gcd num den : Int) := by
  have : 0 < Int.gcd num den := Int.gcd_pos_of_ne_zero_right _ h
  omega
theorem tdiv_ex (a g : Int) (h : g ∣ a) : a.tdiv g = a / g := Int.tdiv_eq_ediv_of_dvd h
def gt (a b : Int) : Prop := 0 ≤ a ∧ a ≤ 1000000 ∧ 1 ≤ b ∧ b ≤ 1000
instance (a b : Int) : Decidable (gt a b) := by unfold gt; infer_instance
def lowN (num den : Int) : Int := (if den < 0 then -num else num) / (Int.gcd num den : Int)
def lowD (num den : Int) : Int := (if den < 0 then -den else den) / (Int.gcd num den : Int)
def placeV (p s num den : Int) : Int := p * den + s * num
def wpV (p s num den : Int) : Int × Int × Bool := if gk p s ∧ gt num den then (lowN (placeV p s num den) den, lowD (placeV p s num den) den, true) else (0, 0, false)
def gapV (p s p' s' num den : Int) : Int := ((placeV p s num den - placeV p' s' num den).natAbs : Int)
def gaV (p s p' s' num den : Int) : Int × Int × Bool := if (gk p s ∧ gk p' s') ∧ gt num den then (lowN (gapV p s p' s' num den) den, lowD (gapV p s p' s' num den) den, true) else (0, 0, false)
def meetV (p s p' s' : Int) : Int × Int × Bool := if p = p' then (0, 1, true) else if s = s' then (0, 0, false) else if lowN (p' - p) (s - s') < 0 then (0, 0, false) else (lowN (p' - p) (s - s'), lowD (p' - p) (s - s'), true)
def mtV (p s p' s' : Int) : Int × Int × Bool := if gk p s ∧ gk p' s' then meetV p s p' s' else (0, 0, false)
def mpV (p s p' s' : Int) : Int × Int × Bool := if (gk p s ∧ gk p' s') ∧ (meetV p s p' s').2.2 = true then (lowN (placeV p s (meetV p s p' s').1 (meetV p s p' s').2.1) (meetV p s p' s').2.1, lowD (placeV p s (meetV p s p' s').1 (meetV p s p' s').2.1) (meetV p s p' s').2.1, true) else (0, 0, false)
theorem div_abs (a g : Int) (hg : 1 ≤ g) (B : Int) (h : -B ≤ a ∧ a ≤ B) : -B ≤ a / g ∧ a / g ≤ B := by
  constructor
  · have : -B ≤ a / g ↔ -B * g ≤ a := Int.le_ediv_iff_mul_le (by omega)
    refine this.mpr ?_
    have hB : 0 ≤ B := by omega
    have := Int.mul_le_mul_of_nonneg_left hg hB
    rw [Int.neg_mul]; omega
  · rcases Int.lt_or_le a 0 with h' | h'
    · have : a / g < 0 ↔ a < 0 * g := Int.ediv_lt_iff_lt_mul (by omega)
      have := this.mpr (by omega)
      omega
    · have := Int.ediv_le_self g h'
      omega
theorem low_bd (num den B : Int) (hd : den ≠ 0) (h1 : -B ≤ num ∧ num ≤ B) (h2 : -B ≤ den ∧ den ≤ B) : (-B ≤ lowN num den ∧ lowN num den ≤ B) ∧ (1 ≤ lowD num den ∧ lowD num den ≤ B) := by
  have hg := gcd_pos num den hd
  refine ⟨?_, ?_⟩
  · unfold lowN; exact div_abs _ _ (by omega) B (by split <;> omega)
  · have h := div_abs (if den < 0 then -den else den) (Int.gcd num den : Int) (by omega) B (by split <;> omega)
    unfold lowD
    refine ⟨?_, h.2⟩
    have hd' : (Int.gcd num den : Int) ∣ (if den < 0 then -den else den) := by
      split
      · exact Int.dvd_neg.mpr (Int.gcd_dvd_right ..)
      · exact Int.gcd_dvd_right ..
    have hp : 0 < (if den < 0 then -den else den) := by split <;> omega
    have := Int.ediv_pos_of_pos_of_dvd hp (by omega) hd'
    omega
theorem lowN_neg (num den : Int) (hd : den ≠ 0) : lowN num den < 0 ↔ (if den < 0 then -num else num) < 0 := by
  have hg := gcd_pos num den hd
  unfold lowN
  have : (if den < 0 then -num else num) / (Int.gcd num den : Int) < 0 ↔ (if den < 0 then -num else num) < 0 * (Int.gcd num den : Int) := Int.ediv_lt_iff_lt_mul (by omega)
  rw [Int.zero_mul] at this
  exact this
theorem abs_mul (a b A B : Int) (h1 : -A ≤ a ∧ a ≤ A) (h2 : 0 ≤ b ∧ b ≤ B) : -(A * B) ≤ a * b ∧ a * b ≤ A * B := by
  have hA : 0 ≤ A := by omega
  have t : A * b ≤ A * B := Int.mul_le_mul_of_nonneg_left h2.2 hA
  have t1 : a * b ≤ A * b := Int.mul_le_mul_of_nonneg_right h1.2 h2.1
  have t2 : -A * b ≤ a * b := Int.mul_le_mul_of_nonneg_right h1.1 h2.1
  rw [Int.neg_mul] at t2
  omega
theorem e_absOf (a : Int) (h1 : -9000000000000000000 ≤ a) (h2 : a ≤ 9000000000000000000) : impl_absOf.f a = some (a.natAbs : Int) := by
  unfold impl_absOf.f; rw [w64 (-a) (by omega) (by omega), abs_mx]
theorem e_l1Most' (a b : Int) : spec_l1Most.f a b = some (max a b) := by
  unfold spec_l1Most.f; split <;> (congr 1; omega)
theorem e_l1Abs (a : Int) (h1 : -9000000000000000000 ≤ a) (h2 : a ≤ 9000000000000000000) : spec_l1Abs.f a = some (a.natAbs : Int) := by
  unfold spec_l1Abs.f; rw [w64 (-a) (by omega) (by omega), e_l1Most']; simp only [Option.bind_some]; congr 1; omega
theorem e_div_l0 : ∀ (b a : Nat) (k : Nat), b < k → impl_divisorOf.l0 k (a : Int) (b : Int) = some ((Nat.gcd a b : Nat) : Int) := by
  intro b
  induction b using Nat.strongRecOn with
  | ind b ih =>
    intro a k hk
    obtain ⟨k, rfl⟩ : ∃ m, k = m + 1 := ⟨k - 1, by omega⟩
    simp only [impl_divisorOf.l0]
    by_cases h : b = 0
    · subst h; simp
    · have hm := Nat.mod_lt a (show b > 0 by omega)
      rw [if_pos (by omega), if_neg (by omega), Int.tmod_eq_emod_of_nonneg (by omega), ← Int.natCast_emod, ih (a % b) hm b k (by omega)]
      congr 2
      rw [Nat.gcd_comm a b, Nat.gcd_rec b a, Nat.gcd_comm]
theorem e_divisorOf (k : Nat) (a b : Int) (ha : 0 ≤ a) (hb : 0 ≤ b) (hk : b < k) : impl_divisorOf.f k a b = some (Int.gcd a b : Int) := by
  unfold impl_divisorOf.f
  have := e_div_l0 b.natAbs a.natAbs k (by omega)
  rw [show ((a.natAbs : Nat) : Int) = a by omega, show ((b.natAbs : Nat) : Int) = b by omega] at this
  exact this
theorem e_lowest (k : Nat) (num den B : Int) (hd : den ≠ 0) (hB : B ≤ 4000000000000000000) (h1 : -B ≤ num ∧ num ≤ B) (h2 : -B ≤ den ∧ den ≤ B) (hk : B < k) : impl_lowest.f k num den = some (lowN num den, lowD num den) := by
  have hb := low_bd num den B hd h1 h2
  have hg := gcd_pos num den hd
  have d1 : (Int.gcd num den : Int) ∣ num := Int.gcd_dvd_left ..
  have d2 : (Int.gcd num den : Int) ∣ den := Int.gcd_dvd_right ..
  unfold impl_lowest.f
  by_cases c : den < 0
  · rw [if_pos c, w64 (-num) (by omega) (by omega), w64 (-den) (by omega) (by omega), e_absOf _ (by omega) (by omega)]
    simp only [Option.bind_some]
    rw [e_divisorOf k _ _ (by omega) (by omega) (by omega)]
    have e : Int.gcd (-den) (((-num).natAbs : Nat) : Int) = Int.gcd num den := by
      rw [Int.gcd_comm num den]; simp [Int.gcd]
    simp only [Option.bind_some]
    rw [e, if_neg (by omega), tdiv_ex _ _ (Int.dvd_neg.mpr d1), tdiv_ex _ _ (Int.dvd_neg.mpr d2)]
    unfold lowN lowD at hb ⊢
    rw [if_pos c, if_pos c] at hb
    rw [if_pos c, if_pos c, w64 _ (by omega) (by omega), w64 _ (by omega) (by omega)]
  · rw [if_neg c, e_absOf _ (by omega) (by omega)]
    simp only [Option.bind_some]
    rw [e_divisorOf k _ _ (by omega) (by omega) (by omega)]
    have e : Int.gcd den ((num.natAbs : Nat) : Int) = Int.gcd num den := by
      rw [Int.gcd_comm num den]; simp [Int.gcd]
    simp only [Option.bind_some]
    rw [e, if_neg (by omega), tdiv_ex _ _ d1, tdiv_ex _ _ d2]
    unfold lowN lowD at hb ⊢
    rw [if_neg c, if_neg c] at hb
    rw [if_neg c, if_neg c, w64 _ (by omega) (by omega), w64 _ (by omega) (by omega)]
theorem e_meLow_l0 (x y : Int) (B : Int) (hB : B ≤ 4000000000000000000) (h1 : -B ≤ x ∧ x ≤ B) (h2 : 1 ≤ y ∧ y ≤ B) : ∀ (b a : Nat) (k : Nat), b < k → (Nat.gcd a b) = Int.gcd x y → spec_meLow.l0 k x y (a : Int) (b : Int) = some (x / (Int.gcd x y : Int), y / (Int.gcd x y : Int)) := by
  intro b
  induction b using Nat.strongRecOn with
  | ind b ih =>
    intro a k hk hg
    obtain ⟨k, rfl⟩ : ∃ m, k = m + 1 := ⟨k - 1, by omega⟩
    simp only [spec_meLow.l0]
    by_cases h : b = 0
    · subst h
      have hp := gcd_pos x y (by omega)
      have d1 : (Int.gcd x y : Int) ∣ x := Int.gcd_dvd_left ..
      have d2 : (Int.gcd x y : Int) ∣ y := Int.gcd_dvd_right ..
      have b1 := div_abs x (Int.gcd x y : Int) (by omega) B h1
      have b2 := div_abs y (Int.gcd x y : Int) (by omega) B (by omega)
      rw [Nat.gcd_zero_right] at hg
      subst hg
      rw [if_neg (by omega), if_neg (by omega), tdiv_ex _ _ d1, tdiv_ex _ _ d2, w64 _ (by omega) (by omega), w64 _ (by omega) (by omega)]
    · have hm := Nat.mod_lt a (show b > 0 by omega)
      rw [if_pos (by omega), if_neg (by omega), Int.tmod_eq_emod_of_nonneg (by omega), ← Int.natCast_emod]
      refine ih (a % b) hm b k (by omega) ?_
      rw [← hg, Nat.gcd_comm a b, Nat.gcd_rec b a, Nat.gcd_comm]
theorem e_meLow (k : Nat) (num den B : Int) (hd : den ≠ 0) (hB : B ≤ 4000000000000000000) (h1 : -B ≤ num ∧ num ≤ B) (h2 : -B ≤ den ∧ den ≤ B) (hk : B + 1 < k) : spec_meLow.f k num den = some (lowN num den, lowD num den) := by
  obtain ⟨k, rfl⟩ : ∃ m, k = m + 1 := ⟨k - 1, by omega⟩
  unfold spec_meLow.f lowN lowD
  by_cases c : den < 0
  · rw [if_pos c, if_pos c, if_pos c, w64 (-num) (by omega) (by omega), w64 (-den) (by omega) (by omega)]
    simp only [spec_meLow.j0]
    rw [e_l1Abs _ (by omega) (by omega)]
    simp only [Option.bind_some]
    have := e_meLow_l0 (-num) (-den) B hB (by omega) (by omega) (-den).natAbs (-num).natAbs k (by omega) rfl
    rw [show (((-den).natAbs : Nat) : Int) = -den by omega] at this
    rw [this]; simp [Int.gcd]
  · rw [if_neg c, if_neg c, if_neg c]
    simp only [spec_meLow.j0]
    rw [e_l1Abs _ (by omega) (by omega)]
    simp only [Option.bind_some]
    have := e_meLow_l0 num den B hB (by omega) (by omega) den.natAbs num.natAbs k (by omega) rfl
    rw [show ((den.natAbs : Nat) : Int) = den by omega] at this
    rw [this]
theorem e_isTime (a b : Int) : impl_isTime.f a b = some (decide (gt a b)) := by
  unfold impl_isTime.f; simp only [e_within, Option.bind_some]
  by_cases h : 0 ≤ a ∧ a ≤ 1000000 <;> by_cases h' : 1 ≤ b ∧ b ≤ 1000 <;> simp [gt, h, h'] <;> omega
theorem e_meTime (a b : Int) : spec_meTime.f a b = some (decide (gt a b)) := by
  unfold spec_meTime.f; simp only [e_l1In, Option.bind_some]
  by_cases h : 0 ≤ a ∧ a ≤ 1000000 <;> by_cases h' : 1 ≤ b ∧ b ≤ 1000 <;> simp [gt, h, h'] <;> omega
theorem e_placeAt' (p s num den N D : Int) (g : gk p s) (h1 : 0 ≤ num ∧ num ≤ N) (h2 : 0 ≤ den ∧ den ≤ D) (hN : N ≤ 1000000) (hD : D ≤ 1000) : impl_placeAt.f p s num den = some (placeV p s num den) ∧ (-101000000 ≤ placeV p s num den ∧ placeV p s num den ≤ 101000000) := by
  unfold gk at g
  have m1 := abs_mul p den 1000 1000 (by omega) (by omega)
  have m2 := abs_mul s num 100 1000000 (by omega) (by omega)
  unfold impl_placeAt.f placeV
  rw [w64 (p * den) (by omega) (by omega), w64 (s * num) (by omega) (by omega), w64 _ (by omega) (by omega)]
  exact ⟨rfl, by omega, by omega⟩
theorem e_placeAt (p s num den : Int) (g : gk p s) (h : gt num den) : impl_placeAt.f p s num den = some (placeV p s num den) ∧ (-101000000 ≤ placeV p s num den ∧ placeV p s num den ≤ 101000000) := by
  unfold gt at h
  exact e_placeAt' p s num den 1000000 1000 g (by omega) (by omega) (by omega) (by omega)
theorem e_iWalkerPlace (k : Nat) (p s num den : Int) (hk : 300000000 < k) : impl_WalkerPlace.f k p s num den = some (wpV p s num den) := by
  obtain ⟨k, rfl⟩ : ∃ m, k = m + 1 := ⟨k - 1, by omega⟩
  unfold impl_WalkerPlace.f wpV; rw [e_iIsWalker, e_isTime]; simp only [Option.bind_some, decide_eq_true_eq, impl_WalkerPlace.j0]
  by_cases h : gk p s <;> by_cases h' : gt num den <;> simp [h, h']
  have q := e_placeAt p s num den h h'
  have t := h'; unfold gt at t
  rw [q.1]; simp only [Option.bind_some]
  rw [e_lowest k _ _ 200000000 (by omega) (by omega) (by omega) (by omega) (by omega)]; rfl
theorem e_sWalkerPlace (k : Nat) (p s num den : Int) (hk : 300000000 < k) : spec_WalkerPlace.f k p s num den = some (wpV p s num den) := by
  unfold spec_WalkerPlace.f wpV; rw [e_meGood, e_meTime]; simp only [Option.bind_some, decide_eq_true_eq]
  by_cases h : gk p s <;> by_cases h' : gt num den <;> simp only [h, h', if_true, if_false, and_self, and_true, true_and, and_false, false_and]
  have t := h'; unfold gt at t; have g := h; unfold gk at g
  have m1 := abs_mul p den 1000 1000 (by omega) (by omega)
  have m2 := abs_mul s num 100 1000000 (by omega) (by omega)
  rw [w64 (p * den) (by omega) (by omega), w64 (s * num) (by omega) (by omega), w64 _ (by omega) (by omega)]
  rw [e_meLow k _ _ 200000000 (by omega) (by omega) (by omega) (by omega) (by omega)]; rfl
theorem e_iGapAt (k : Nat) (p s p' s' num den : Int) (hk : 300000000 < k) : impl_GapAt.f k p s p' s' num den = some (gaV p s p' s' num den) := by
  obtain ⟨k, rfl⟩ : ∃ m, k = m + 1 := ⟨k - 1, by omega⟩
  unfold impl_GapAt.f gaV; rw [e_iIsWalker, e_iIsWalker, e_isTime]; simp only [Option.bind_some, decide_eq_true_eq, impl_GapAt.j0]
  by_cases h : gk p s <;> by_cases h2 : gk p' s' <;> by_cases h' : gt num den <;> simp [h, h', h2]
  have q := e_placeAt p s num den h h'
  have q' := e_placeAt p' s' num den h2 h'
  have t := h'; unfold gt at t
  rw [q.1, q'.1]; simp only [Option.bind_some]
  rw [w64 _ (by omega) (by omega), e_absOf _ (by omega) (by omega)]; simp only [Option.bind_some]
  rw [e_lowest k _ _ 210000000 (by omega) (by omega) (by omega) (by omega) (by omega)]; rfl
theorem e_sGapAt (k : Nat) (p s p' s' num den : Int) (hk : 300000000 < k) : spec_GapAt.f k p s p' s' num den = some (gaV p s p' s' num den) := by
  obtain ⟨k, rfl⟩ : ∃ m, k = m + 1 := ⟨k - 1, by omega⟩
  unfold spec_GapAt.f gaV; rw [e_meGood, e_meGood, e_meTime]; simp only [Option.bind_some, decide_eq_true_eq, spec_GapAt.j0]
  by_cases h : gk p s <;> by_cases h2 : gk p' s' <;> by_cases h' : gt num den <;> simp [h, h', h2]
  have t := h'; unfold gt at t; have g := h; have g2 := h2; unfold gk at g g2
  have m1 := abs_mul (p - p') den 2000 1000 (by omega) (by omega)
  have m2 := abs_mul (s - s') num 200 1000000 (by omega) (by omega)
  rw [w64 (p - p') (by omega) (by omega), w64 (s - s') (by omega) (by omega), w64 ((p - p') * den) (by omega) (by omega), w64 ((s - s') * num) (by omega) (by omega), w64 _ (by omega) (by omega), e_l1Abs _ (by omega) (by omega)]
  simp only [Option.bind_some]
  rw [e_meLow k _ _ 210000000 (by omega) (by omega) (by omega) (by omega) (by omega)]
  have e : (p - p') * den + (s - s') * num = placeV p s num den - placeV p' s' num den := by
    unfold placeV; rw [Int.sub_mul, Int.sub_mul]; omega
  simp only [Option.bind_some, gapV, e]
theorem e_meetingTime (k : Nat) (p s p' s' : Int) (g : gk p s) (g' : gk p' s') (hk : 10000 < k) : impl_meetingTime.f k p s p' s' = some (meetV p s p' s') := by
  unfold gk at g g'; unfold impl_meetingTime.f meetV
  by_cases h : p = p'
  · rw [if_pos h, if_pos h]
  · by_cases h2 : s = s'
    · rw [if_neg h, if_neg h, if_pos h2, if_pos h2]
    · rw [if_neg h, if_neg h, if_neg h2, if_neg h2, w64 _ (by omega) (by omega), w64 _ (by omega) (by omega), e_lowest k _ _ 2000 (by omega) (by omega) (by omega) (by omega) (by omega)]
      simp only [Option.bind_some]
      split <;> rfl
theorem e_meMeet (k : Nat) (p s p' s' : Int) (g : gk p s) (g' : gk p' s') (hk : 10000 < k) : spec_meMeet.f k p s p' s' = some (meetV p s p' s') := by
  unfold gk at g g'; unfold spec_meMeet.f meetV
  rw [w64 (p' - p) (by omega) (by omega), w64 (s - s') (by omega) (by omega)]
  by_cases h : p = p'
  · rw [if_pos (by omega), if_pos h]
  · by_cases h2 : s = s'
    · rw [if_neg (by omega), if_neg h, if_pos (by omega), if_pos h2]
    · have hn := lowN_neg (p' - p) (s - s') (by omega)
      rw [if_neg (by omega), if_neg h, if_neg (by omega), if_neg h2]
      by_cases c : lowN (p' - p) (s - s') < 0
      · have := hn.mp c
        rw [if_pos c, if_pos]
        by_cases a : p' - p > 0 <;> by_cases b : s - s' > 0 <;> simp [a, b] <;> (split at this <;> omega)
      · have := fun z => c (hn.mpr z)
        rw [if_neg c, if_neg, e_meLow k _ _ 2000 (by omega) (by omega) (by omega) (by omega) (by omega)]
        · rfl
        · by_cases a : p' - p > 0 <;> by_cases b : s - s' > 0 <;> simp [a, b] <;> (split at this <;> omega)
theorem e_iMeetingTime (k : Nat) (p s p' s' : Int) (hk : 10000 < k) : impl_MeetingTime.f k p s p' s' = some (mtV p s p' s') := by
  unfold impl_MeetingTime.f mtV; rw [e_iIsWalker, e_iIsWalker]; simp only [Option.bind_some, decide_eq_true_eq]
  by_cases h : gk p s <;> by_cases h' : gk p' s' <;> simp only [h, h', if_true, if_false, and_self, and_true, true_and, and_false, false_and]
  rw [e_meetingTime k p s p' s' h h' hk]; rfl
theorem e_sMeetingTime (k : Nat) (p s p' s' : Int) (hk : 10000 < k) : spec_MeetingTime.f k p s p' s' = some (mtV p s p' s') := by
  unfold spec_MeetingTime.f mtV; rw [e_meGood, e_meGood]; simp only [Option.bind_some, decide_eq_true_eq]
  by_cases h : gk p s <;> by_cases h' : gk p' s' <;> simp only [h, h', if_true, if_false, and_self, and_true, true_and, and_false, false_and]
  rw [e_meMeet k p s p' s' h h' hk]; rfl
theorem meet_bd (p s p' s' : Int) (g : gk p s) (g' : gk p' s') (h : (meetV p s p' s').2.2 = true) : (0 ≤ (meetV p s p' s').1 ∧ (meetV p s p' s').1 ≤ 2000) ∧ (1 ≤ (meetV p s p' s').2.1 ∧ (meetV p s p' s').2.1 ≤ 200) := by
  unfold gk at g g'; unfold meetV at h ⊢
  by_cases c : p = p'
  · rw [if_pos c]; simp
  · by_cases c2 : s = s'
    · rw [if_neg c, if_pos c2] at h; simp at h
    · by_cases c3 : lowN (p' - p) (s - s') < 0
      · rw [if_neg c, if_neg c2, if_pos c3] at h; simp at h
      · rw [if_neg c, if_neg c2, if_neg c3]
        have b := low_bd (p' - p) (s - s') 2000 (by omega) (by omega) (by omega)
        have hd : lowD (p' - p) (s - s') ≤ 200 := by
          have hg := gcd_pos (p' - p) (s - s') (by omega)
          have := div_abs (if s - s' < 0 then -(s - s') else s - s') (Int.gcd (p' - p) (s - s') : Int) (by omega) 200 (by split <;> omega)
          unfold lowD; exact this.2
        simp only; omega
theorem e_iMeetingPlace (k : Nat) (p s p' s' : Int) (hk : 300000000 < k) : impl_MeetingPlace.f k p s p' s' = some (mpV p s p' s') := by
  obtain ⟨k, rfl⟩ : ∃ m, k = m + 1 := ⟨k - 1, by omega⟩
  unfold impl_MeetingPlace.f mpV; rw [e_iIsWalker, e_iIsWalker]; simp only [Option.bind_some, decide_eq_true_eq, impl_MeetingPlace.j0]
  by_cases h : gk p s <;> by_cases h' : gk p' s' <;> simp [h, h']
  rw [e_meetingTime k p s p' s' h h' (by omega)]; simp only [Option.bind_some]
  by_cases c : (meetV p s p' s').2.2 = true
  · have b := meet_bd p s p' s' h h' c
    have q := e_placeAt' p s (meetV p s p' s').1 (meetV p s p' s').2.1 1000000 1000 h (by omega) (by omega) (by omega) (by omega)
    rw [if_pos c, if_pos c, q.1]; simp only [Option.bind_some]
    rw [e_lowest k _ _ 200000000 (by omega) (by omega) (by omega) (by omega) (by omega)]; rfl
  · rw [if_neg c, if_neg c]
theorem e_sMeetingPlace (k : Nat) (p s p' s' : Int) (hk : 300000000 < k) : spec_MeetingPlace.f k p s p' s' = some (mpV p s p' s') := by
  unfold spec_MeetingPlace.f mpV; rw [e_sMeetingTime k p s p' s' (by omega)]; simp only [Option.bind_some, mtV]
  by_cases h : gk p s ∧ gk p' s'
  · rw [if_pos h]
    by_cases c : (meetV p s p' s').2.2 = true
    · have b := meet_bd p s p' s' h.1 h.2 c
      have g := h.1; unfold gk at g
      have m1 := abs_mul p (meetV p s p' s').2.1 1000 1000 (by omega) (by omega)
      have m2 := abs_mul s (meetV p s p' s').1 100 1000000 (by omega) (by omega)
      rw [if_pos c, if_pos (show (gk p s ∧ gk p' s') ∧ (meetV p s p' s').2.2 = true from ⟨h, c⟩), w64 (p * _) (by omega) (by omega), w64 (s * _) (by omega) (by omega), w64 _ (by omega) (by omega)]
      rw [e_meLow k _ _ 200000000 (by omega) (by omega) (by omega) (by omega) (by omega)]; rfl
    · rw [if_neg c, if_neg (show ¬ ((gk p s ∧ gk p' s') ∧ (meetV p s p' s').2.2 = true) from fun z => c z.2)]
  · rw [if_neg h, if_neg (show ¬ ((gk p s ∧ gk p' s') ∧ (meetV p s p' s').2.2 = true) from fun z => h z.1)]; simp
theorem round1 {k n : Nat} (h : n < k) : ∃ m, k = m + 1 ∧ n ≤ m := ⟨k - 1, by omega, by omega⟩
def ws (l : List S25) : Prop := (1 ≤ (l.length : Int) ∧ (l.length : Int) ≤ 8) ∧ ∀ x ∈ l, gk x.f0 x.f1
instance (l : List S25) : Decidable (ws l) := by unfold ws; infer_instance
theorem drop_consS (l : List S25) (i : Nat) (h : i < l.length) : l.drop i = l.getD i z25 :: l.drop (i + 1) := by
  rw [List.drop_eq_getElem_cons h]; simp [List.getD_eq_getElem?_getD, h]
theorem rdS (l : List S25) (i : Nat) : je l (i : Int) = l.getD i z25 := by unfold je; simp
theorem e_meAll_l0 (l : List S25) (hl : (l.length : Int) ≤ 9000000000000000000) : ∀ (n i k : Nat), i + n = l.length → n < k → spec_meAll.l0 k l (l.length : Int) (i : Int) = some (decide (∀ x ∈ l.drop i, gk x.f0 x.f1)) := by
  intro n
  induction n with
  | zero =>
    intro i k hi hk
    obtain ⟨k, rfl, hk⟩ := round1 hk
    simp only [spec_meAll.l0]
    rw [if_neg (by omega), List.drop_eq_nil_of_le (by omega)]; simp
  | succ n ih =>
    intro i k hi' hk
    obtain ⟨k, rfl, hk⟩ := round1 hk
    simp only [spec_meAll.l0]
    rw [if_pos (by omega), if_pos (by omega), if_pos (by omega), rdS, e_meGood, drop_consS l i (by omega), w64 _ (by omega) (by omega)]
    have e : ((i : Int) + 1) = ((i + 1 : Nat) : Int) := by omega
    rw [e, ih (i + 1) k (by omega) (by omega)]
    simp only [Option.bind_some, decide_eq_true_eq, List.forall_mem_cons]
    by_cases h : gk (l.getD i z25).f0 (l.getD i z25).f1
    · rw [if_pos h]; congr 1; exact decide_eq_decide.mpr ⟨fun z => ⟨h, z⟩, fun z => z.2⟩
    · rw [if_neg h]; congr 1; symm; rw [decide_eq_false_iff_not]; exact fun z => h z.1
theorem e_meAll (k : Nat) (l : List S25) (hl : (l.length : Int) ≤ 9000000000000000000) (hk : l.length < k) : spec_meAll.f k l = some (decide (ws l)) := by
  unfold spec_meAll.f ws
  have := e_meAll_l0 l hl l.length 0 k (by omega) hk
  rw [e_l1In]; simp only [Option.bind_some, decide_eq_true_eq]
  by_cases h : 1 ≤ (l.length : Int) ∧ (l.length : Int) ≤ 8
  · rw [if_pos h]; simp only [h, true_and, and_self]; exact this
  · rw [if_neg h]; simp only [h, false_and, decide_false]
theorem e_AreWalkers (l : List S25) (hl : (l.length : Int) ≤ 9000000000000000000) : impl_AreWalkers.f l = some (decide (ws l)) := by
  unfold impl_AreWalkers.f ws; rw [if_pos hl]
  congr 1
  rw [Bool.eq_iff_iff]
  simp only [Bool.and_eq_true, decide_eq_true_eq, List.all_eq_true, impl_AreWalkers.q, gk]
  exact decide_eq_true_iff.symm
theorem e_sAreWalkers (k : Nat) (l : List S25) (hl : (l.length : Int) ≤ 9000000000000000000) (hk : l.length < k) : spec_AreWalkers.f k l = some (decide (ws l)) := by
  unfold spec_AreWalkers.f; rw [e_meAll k l hl hk]; rfl
theorem low_cross (a b : Int) (hb : b ≠ 0) : lowN a b * b = lowD a b * a := by
  have hg := gcd_pos a b hb
  obtain ⟨u, hu⟩ : (Int.gcd a b : Int) ∣ a := Int.gcd_dvd_left ..
  obtain ⟨v, hv⟩ : (Int.gcd a b : Int) ∣ b := Int.gcd_dvd_right ..
  unfold lowN lowD
  generalize (Int.gcd a b : Int) = g at *
  subst hu hv
  by_cases h : g * v < 0
  · rw [if_pos h, if_pos h, show -(g * u) = g * (-u) by rw [Int.mul_neg], show -(g * v) = g * (-v) by rw [Int.mul_neg], Int.mul_ediv_cancel_left _ (by omega), Int.mul_ediv_cancel_left _ (by omega)]
    rw [Int.neg_mul, Int.neg_mul, Int.mul_left_comm u g v, Int.mul_left_comm v g u, Int.mul_comm u v]
  · rw [if_neg h, if_neg h, Int.mul_ediv_cancel_left _ (by omega), Int.mul_ediv_cancel_left _ (by omega)]
    rw [Int.mul_left_comm u g v, Int.mul_left_comm v g u, Int.mul_comm u v]
open List in
theorem am_z (l : List S25) (hw : ws l) (i : Nat) (hi : i < l.length) : gk (l.getD i z25).f0 (l.getD i z25).f1 := by
  have : l.getD i z25 ∈ l := by rw [List.getD_eq_getElem?_getD, List.getElem?_eq_getElem hi, Option.getD_some]; exact List.getElem_mem hi
  exact hw.2 _ this
theorem am_mt (l : List S25) (hw : ws l) (i j : Nat) (hi : i < l.length) (hj : j < l.length) : impl_meetingTime.f KM (l.getD i z25).f0 (l.getD i z25).f1 (l.getD j z25).f0 (l.getD j z25).f1 = some (mtM l i j) ∧ mtM l i j = meetV (l.getD i z25).f0 (l.getD i z25).f1 (l.getD j z25).f0 (l.getD j z25).f1 := by
  have e := e_meetingTime KM _ _ _ _ (am_z l hw i hi) (am_z l hw j hj) (by unfold KM; omega)
  have : mtM l i j = meetV (l.getD i z25).f0 (l.getD i z25).f1 (l.getD j z25).f0 (l.getD j z25).f1 := by unfold mtM; rw [e, Option.getD_some]
  exact ⟨by rw [e, this], this⟩
theorem am_gd (l : List S25) (hw : ws l) (i j : Nat) (hi : i < l.length) (hj : j < l.length) (ok : (mtM l i j).2.2 = true) : SymW.gdR (rowK (mtM l) i j) ∧ (0 ≤ (mtM l i j).1 ∧ (mtM l i j).1 ≤ 2000) ∧ (1 ≤ (mtM l i j).2.1 ∧ (mtM l i j).2.1 ≤ 200) := by
  have h := (am_mt l hw i j hi hj).2
  have b := meet_bd _ _ _ _ (am_z l hw i hi) (am_z l hw j hj) (by rw [← h]; exact ok)
  rw [← h] at b
  refine ⟨?_, b⟩
  unfold SymW.gdR rowK; simp; omega
theorem am_impl (l : List S25) (hw : ws l) : impl_allMeetings.f l = some (SymW.srtR (rowsM l)) := by
  have h8 := hw.1.2
  unfold impl_allMeetings.f
  rw [if_pos]
  refine ⟨by omega, fun i hi j hj => by rw [(am_mt l hw i j hi hj).1]; rfl, fun r hr => ?_⟩
  obtain ⟨q, j, _, j2, j3, j4, rfl⟩ := (rowsI_mem (mtM l) l.length l.length 0 (by omega)).1 r hr
  exact (am_gd l hw q j (by omega) j3 j4).1
theorem am_l2 (x0 x16 : List S25) (o : List (List Int)) (i kk a b x17 x18 p s : Int) (r : Option (List (List Int) × Bool)) (ho : o.length ≤ 1000) (go_ : ∀ y ∈ o, SymW.gdR y) (K : Nat)
    (pos : Nat) (hK : ∀ k, K ≤ k → spec_AllMeetings.l1 k x0 (o.take pos ++ [i, kk, a, b] :: o.drop pos) i (wrap64 (kk + 1)) x16 x17 x18 p s = r) : ∀ (j k : Nat), j ≤ o.length → SymW.posR [i, kk, a, b] o j = pos → K + j + 1 ≤ k →
    spec_AllMeetings.l2 k x0 o i kk a b (j : Int) x16 x17 x18 p s = r := by
  intro j
  induction j with
  | zero =>
    intro k hj hp hk
    obtain ⟨k, rfl⟩ : ∃ m, k = m + 1 := ⟨k - 1, by omega⟩
    have : pos = 0 := by rw [← hp]; rfl
    subst this
    simp only [spec_AllMeetings.l2, Int.natCast_zero, Int.ofNat_zero]
    have := hK k (by omega)
    simp only [List.take_zero, List.drop_zero, List.nil_append] at this
    simp [this]; omega
  | succ j ih =>
    intro k hj hp hk
    obtain ⟨k, rfl⟩ : ∃ m, k = m + 1 := ⟨k - 1, by omega⟩
    have e1 : wrap64 (((j + 1 : Nat) : Int) - 1) = (j : Int) := by rw [w64 _ (by omega) (by omega)]; omega
    have e2 : jf o (j : Int) = o.getD j [] := by unfold jf; simp
    have hm : o.getD j [] ∈ o := by rw [List.getD_eq_getElem?_getD, List.getElem?_eq_getElem (show j < o.length by omega), Option.getD_some]; exact List.getElem_mem _
    have hl : (o.getD j []).length = 4 := (go_ _ hm).1
    simp only [spec_AllMeetings.l2]
    rw [e1, e2, if_pos (by omega), if_pos (by omega), if_pos (by omega), if_pos (by omega), if_pos (by omega)]
    simp only [SymW.posR] at hp
    by_cases c : SymW.tlt [i, kk, a, b] (o.getD j [])
    · rw [if_pos c] at hp
      have c' := c
      unfold SymW.tlt at c'
      rw [if_pos (by simpa [rd] using c')]
      exact ih k (by omega) hp (by omega)
    · rw [if_neg c] at hp
      have c' := c
      unfold SymW.tlt at c'
      rw [if_neg (by simpa [rd] using c')]
      subst hp
      have := hK k (by omega)
      have t : ((j + 1 : Nat) : Int).toNat = j + 1 := by omega
      have t1 : (o.take (j + 1)).length ≤ 1000 := by simp; omega
      have t2 : (o.drop (j + 1)).length ≤ 1000 := by simp; omega
      simp only [Option.bind_some, t, List.nil_append, List.length_append, List.length_nil, List.length_cons, Nat.zero_add]
      rw [if_pos (by omega), if_pos (by omega), if_pos (by omega), if_pos (by omega), if_pos (by omega), List.append_assoc]
      exact this
theorem am_l1 (l : List S25) (hw : ws l) (r : Option (List (List Int) × Bool)) (i : Nat) (hi : i < l.length) : ∀ (n kk : Nat) (o : List (List Int)) (K : Nat), kk + n = l.length → o.length + n ≤ 1000 → (∀ y ∈ o, SymW.gdR y) →
    (∀ k, K ≤ k → spec_AllMeetings.l0 k l ((rowsK (mtM l) i n kk).foldl (fun o x => SymW.insR x o) o) l (l.length : Int) ((i + 1 : Nat) : Int) = r) →
    ∃ K', ∀ k, K' ≤ k → spec_AllMeetings.l1 k l o (i : Int) (kk : Int) l (l.length : Int) (i : Int) (l.getD i z25).f0 (l.getD i z25).f1 = r := by
  have h8 := hw.1.2
  intro n
  induction n with
  | zero =>
    intro kk o K h ho go_ hK
    refine ⟨K + 1, fun k hk => ?_⟩
    obtain ⟨k, rfl⟩ : ∃ m, k = m + 1 := ⟨k - 1, by omega⟩
    simp only [spec_AllMeetings.l1]
    rw [if_neg (by omega), w64 _ (by omega) (by omega), show ((i : Int) + 1) = ((i + 1 : Nat) : Int) by omega]
    exact hK k (by omega)
  | succ n ih =>
    intro kk o K h ho go_ hK
    have hm := (am_mt l hw i kk hi (by omega)).2
    have e1 : wrap64 ((kk : Int) + 1) = ((kk + 1 : Nat) : Int) := by rw [w64 _ (by omega) (by omega)]; omega
    simp only [rowsK] at hK
    by_cases ok : (mtM l i kk).2.2 = true
    · rw [if_pos ok] at hK
      simp only [List.foldl_cons] at hK
      have g := (am_gd l hw i kk hi (by omega) ok).1
      have pr := SymW.insR_perm (rowK (mtM l) i kk) o
      obtain ⟨K1, h1⟩ := ih (kk + 1) (SymW.insR (rowK (mtM l) i kk) o) K (by omega) (by have := pr.length_eq; simp only [List.length_cons] at this; omega) (fun y hy => by
        have := pr.mem_iff.1 hy
        rcases List.mem_cons.1 this with rfl | q
        · exact g
        · exact go_ y q) hK
      refine ⟨K1 + o.length + 20000, fun k hk => ?_⟩
      obtain ⟨k, rfl⟩ : ∃ m, k = m + 1 := ⟨k - 1, by omega⟩
      simp only [spec_AllMeetings.l1]
      rw [if_pos (by omega), if_pos (by omega), rdS, e_meMeet k _ _ _ _ (am_z l hw i hi) (am_z l hw kk (by omega)) (by omega), ← hm]
      simp only [Option.bind_some]
      rw [if_pos ok]
      exact am_l2 l l o (i : Int) (kk : Int) _ _ _ _ _ _ r (by omega) go_ K1 _ (fun k hk => by rw [e1]; exact h1 k hk) o.length k (Nat.le_refl _) rfl (by omega)
    · rw [if_neg ok] at hK
      obtain ⟨K1, h1⟩ := ih (kk + 1) o K (by omega) (by omega) go_ hK
      refine ⟨K1 + 20000, fun k hk => ?_⟩
      obtain ⟨k, rfl⟩ : ∃ m, k = m + 1 := ⟨k - 1, by omega⟩
      simp only [spec_AllMeetings.l1]
      rw [if_pos (by omega), if_pos (by omega), rdS, e_meMeet k _ _ _ _ (am_z l hw i hi) (am_z l hw kk (by omega)) (by omega), ← hm]
      simp only [Option.bind_some]
      rw [if_neg ok, e1]
      exact h1 k (by omega)
theorem am_l0 (l : List S25) (hw : ws l) : ∀ (n i : Nat) (o : List (List Int)), n + i = l.length → o.length + n * 10 ≤ 900 → (∀ y ∈ o, SymW.gdR y) →
    ∃ K', ∀ k, K' ≤ k → spec_AllMeetings.l0 k l o l (l.length : Int) (i : Int) = some ((rowsI (mtM l) l.length n i).foldl (fun o x => SymW.insR x o) o, true) := by
  have h8 := hw.1.2
  intro n
  induction n with
  | zero =>
    intro i o h ho go_
    refine ⟨1, fun k hk => ?_⟩
    obtain ⟨k, rfl⟩ : ∃ m, k = m + 1 := ⟨k - 1, by omega⟩
    simp only [spec_AllMeetings.l0]
    rw [if_neg (by omega)]
    simp [rowsI]
  | succ n ih =>
    intro i o h ho go_
    have hr := rowsK_mem (mtM l) i (l.length - (i + 1)) (i + 1)
    have pf : ∀ (rs : List (List Int)) (o : List (List Int)), (rs.foldl (fun o x => SymW.insR x o) o).Perm (rs ++ o) := by
      intro rs
      induction rs with
      | nil => intro o; exact List.Perm.refl _
      | cons x t ih => intro o; simp only [List.foldl_cons]; exact (ih _).trans ((List.Perm.append_left t (SymW.insR_perm x o)).trans (by simp))
    have pr := pf (rowsK (mtM l) i (l.length - (i + 1)) (i + 1)) o
    obtain ⟨K, hK⟩ := ih (i + 1) ((rowsK (mtM l) i (l.length - (i + 1)) (i + 1)).foldl (fun o x => SymW.insR x o) o) (by omega) (by have := pr.length_eq; rw [List.length_append] at this; omega) (fun y hy => by
      rcases List.mem_append.1 (pr.mem_iff.1 hy) with q | q
      · obtain ⟨j, j1, j2, j3, rfl⟩ := hr.1 y q
        exact (am_gd l hw i j (by omega) (by omega) j3).1
      · exact go_ y q)
    obtain ⟨K1, h1⟩ := am_l1 l hw _ i (by omega) (l.length - (i + 1)) (i + 1) o K (by omega) (by omega) go_ hK
    refine ⟨K1 + 1, fun k hk => ?_⟩
    obtain ⟨k, rfl⟩ : ∃ m, k = m + 1 := ⟨k - 1, by omega⟩
    simp only [spec_AllMeetings.l0]
    rw [if_pos (by omega), if_pos (by omega), if_pos (by omega), rdS, w64 _ (by omega) (by omega), show ((i : Int) + 1) = ((i + 1 : Nat) : Int) by omega, h1 k (by omega)]
    simp only [rowsI, List.foldl_append]
theorem am_spec (l : List S25) (hl : (l.length : Int) ≤ 1048576) : ∃ K, ∀ k, K ≤ k → spec_AllMeetings.f k l = some (if ws l then (SymW.srtR (rowsM l), true) else ([], false)) := by
  by_cases hw : ws l
  · have h8 := hw.1.2
    obtain ⟨K, hK⟩ := am_l0 l hw l.length 0 [] (by omega) (by simp; omega) (by simp)
    refine ⟨K + 10000000, fun k hk => ?_⟩
    unfold spec_AllMeetings.f
    rw [e_meAll k l (by omega) (by omega), if_pos hw]
    simp only [decide_eq_true hw, Option.bind_some, if_true]
    have := hK k (by omega)
    simp only [Int.natCast_zero, Int.ofNat_zero] at this
    exact this
  · refine ⟨10000000, fun k hk => ?_⟩
    unfold spec_AllMeetings.f
    rw [e_meAll k l (by omega) (by omega), if_neg hw]
    simp [hw]
theorem son1 (u : Nat) : strOfNums [((u : Nat) : Int)] = bs [UInt8.ofNat u] := rfl
theorem tdiv10n (n : Nat) : Int.tdiv (n : Int) 10 = ((n / 10 : Nat) : Int) := by rw [Int.tdiv_eq_ediv_of_nonneg (by omega)]; omega
theorem tmod10n (n : Nat) : Int.tmod (n : Int) 10 = ((n % 10 : Nat) : Int) := by rw [Int.tmod_eq_emod_of_nonneg (by omega)]; omega
theorem digits_le (u : Nat) (h : u ≤ 1000000000000) : (Lib.decDigits u).length ≤ 21 := by
  have := Lib.itoa_length_le (u : Int) (by omega) (by omega)
  rwa [Lib.itoa_nonneg] at this
theorem e_l1Num_k : ∀ (k n : Nat), n < 10 ^ k → n ≤ 1000000000000 → spec_l1Num.f (k + 1) (n : Int) = some (bs (Lib.decDigits n))
  | k, n, h, hb => by
    unfold spec_l1Num.f
    by_cases c : n < 10
    · have e : (wrap64 (48 + (n : Int))) % 256 = ((48 + n : Nat) : Int) := by unfold wrap64; omega
      rw [if_pos (by omega), e, son1, Lib.decDigits, dif_pos c]
    · cases k with
      | zero => simp at h; omega
      | succ k =>
        have e1 : wrap64 (Int.tdiv (n : Int) 10) = ((n / 10 : Nat) : Int) := by rw [tdiv10n]; unfold wrap64; omega
        have e2 : (wrap64 (48 + Int.tmod (n : Int) 10)) % 256 = ((48 + n % 10 : Nat) : Int) := by rw [tmod10n]; unfold wrap64; omega
        have h10 : n / 10 < 10 ^ k := by rw [Nat.pow_succ] at h; omega
        have hd := digits_le (n / 10) (by omega)
        rw [if_neg (by omega), e1, e_l1Num_k k (n / 10) h10 (by omega), e2]
        simp only [Option.bind_some]
        rw [son1, if_pos (by rw [bs_size, bs_size]; simp only [List.length_cons, List.length_nil]; omega), bs_append]
        conv => rhs; rw [Lib.decDigits, dif_neg c]
theorem e_l1Num (k n : Nat) (hk : 13 < k) (hn : n ≤ 1000000000) : spec_l1Num.f k (n : Int) = some (bs (Lib.decDigits n)) := by
  obtain ⟨q, rfl⟩ : ∃ q, k = q + 1 := ⟨k - 1, by omega⟩
  refine e_l1Num_k q n (Nat.lt_of_lt_of_le (show n < 10 ^ 13 by omega) (Nat.pow_le_pow_right (by omega) (by omega))) (by omega)
theorem e_l1Int (k : Nat) (n : Int) (hk : 13 < k) (h : -1000000000 ≤ n ∧ n ≤ 1000000000) : spec_l1Int.f k n = some (bs (Lib.itoa n)) := by
  unfold spec_l1Int.f
  by_cases c : n < 0
  · have e : wrap64 (-n) = ((n.natAbs : Nat) : Int) := by unfold wrap64; omega
    have hd := digits_le n.natAbs (by omega)
    rw [if_pos c, e, e_l1Num k _ hk (by omega)]
    simp only [Option.bind_some]
    rw [if_pos (by rw [bs_size]; omega)]
    unfold Lib.itoa
    rw [if_pos c]
    show some (bs [45] ++ bs _) = _
    rw [bs_append]
    rfl
  · obtain ⟨u, rfl⟩ : ∃ u : Nat, n = u := ⟨n.toNat, by omega⟩
    rw [if_neg c, e_l1Num k u hk (by omega), Lib.itoa_nonneg]
    rfl
theorem join_snoc (c : UInt8) (ps : List (List UInt8)) (q : List UInt8) (h : ps ≠ []) : Lib.join (ps ++ [q]) [c] = Lib.join ps [c] ++ ([c] ++ q) := by
  cases ps with
  | nil => exact absurd rfl h
  | cons y r =>
    rw [List.cons_append, Lib.join_cons, Lib.join_cons]
    simp [Lib.joinTail]
theorem wText_eq (l : List S25) : wText l = Lib.join (l.map fun x => j2 x.f0 x.f1 [58]) [44] := by
  unfold wText wTexts
  rw [List.map_map]
  rfl
theorem wText_succ (l : List S25) (i : Nat) (h : i < l.length) : wText (l.take (i + 1)) = (if i = 0 then [] else wText (l.take i) ++ [44]) ++ j2 (l.getD i z25).f0 (l.getD i z25).f1 [58] := by
  have e : l.getD i z25 = l[i] := by simp [List.getD_eq_getElem?_getD, h]
  rw [wText_eq, wText_eq, List.take_succ_eq_append_getElem h, List.map_append, e]
  by_cases c : i = 0
  · subst c
    rw [if_pos rfl]
    simp [Lib.join_one]
  · rw [if_neg c, List.map_cons, List.map_nil, join_snoc _ _ _ (by cases l with | nil => simp at h | cons a b => cases i with | zero => exact absurd rfl c | succ i => simp)]
    simp only [List.append_assoc]
theorem e_meText_l0 (l : List S25) (hl : l.length ≤ 8) (hx : ∀ x ∈ l, wOk x) : ∀ (n i k : Nat), i + n = l.length → n + 20 < k → spec_meText.l0 k (bs (wText (l.take i))) l (l.length : Int) (i : Int) = some (bs (wText l)) := by
  intro n
  induction n with
  | zero =>
    intro i k hi hk
    obtain ⟨k, rfl⟩ : ∃ q, k = q + 1 := ⟨k - 1, by omega⟩
    unfold spec_meText.l0
    rw [if_neg (by omega), show i = l.length by omega, List.take_length]
  | succ n ih =>
    intro i k hi hk
    obtain ⟨k, rfl⟩ : ∃ q, k = q + 1 := ⟨k - 1, by omega⟩
    have hok : wOk (l.getD i z25) := hx _ (by simp [List.getD_eq_getElem?_getD, show i < l.length by omega])
    have hs := wText_succ l i (by omega)
    have hw := wText_len (l.take i) (fun x h => hx x (List.mem_of_mem_take h))
    rw [List.length_take] at hw
    have hj := j2_len _ _ hok.1 hok.2 [58] (by simp)
    have hw64 : wrap64 ((i : Int) + 1) = ((i + 1 : Nat) : Int) := by unfold wrap64; omega
    have hrd : je l (i : Int) = l.getD i z25 := by unfold je; simp
    have hn := ih (i + 1) k (by omega) (by omega)
    unfold spec_meText.l0
    have ht0 : i = 0 → wText (l.take i) = [] := by rintro rfl; rw [List.take_zero]; rfl
    generalize wText (l.take i) = tt at *
    rw [hrd, if_pos (by omega), if_pos (by omega), if_pos (by omega), e_l1Int k _ (by omega) hok.1, e_l1Int k _ (by omega) hok.2, hw64]
    simp only [Option.bind_some]
    rw [j2_eq] at hj hs
    simp only [List.length_append, List.length_cons, List.length_nil] at hj
    rw [hs] at hn
    have b58 : (⟨#[58]⟩ : ByteArray) = bs [58] := rfl
    have b44 : (⟨#[44]⟩ : ByteArray) = bs [44] := rfl
    by_cases c : i = 0
    · have hz := ht0 c
      subst hz
      rw [if_pos c] at hn
      rw [if_neg (by omega), if_pos (by rw [bs_size]; omega), b58, bs_append, bs_append, if_pos (by rw [bs_size, bs_size]; simp only [List.length_append, List.length_cons, List.length_nil]; omega), bs_append, if_pos (by rw [bs_size, bs_size]; simp only [List.length_append, List.length_cons, List.length_nil]; omega)]
      simpa using hn
    · rw [if_neg c] at hn
      rw [if_pos (by omega), if_pos (by rw [bs_size]; omega), if_pos (by rw [bs_size]; omega), b58, b44, bs_append, bs_append, bs_append, if_pos (by rw [bs_size, bs_size]; simp only [List.length_append, List.length_cons, List.length_nil]; omega), if_pos (by rw [bs_size, bs_size]; simp only [List.length_append, List.length_cons, List.length_nil]; omega), bs_append]
      simpa [List.append_assoc] using hn
theorem e_meText (k : Nat) (l : List S25) (hl : l.length ≤ 8) (hx : ∀ x ∈ l, wOk x) (hk : 100 < k) : spec_meText.f k l = some (bs (wText l)) := by
  have := e_meText_l0 l hl hx l.length 0 k (by omega) (by omega)
  unfold spec_meText.f
  rw [List.take_zero] at this
  exact this

theorem e_l1Split_l0 (L : List UInt8) (hL : L.length ≤ 100000000) (c : UInt8) : ∀ (n i fr k : Nat) (done : List ByteArray), i + n = L.length → fr ≤ i → n < k → done.length ≤ i →
    spec_l1Split.l0 k (bs L) (c.toNat : Int) done (fr : Int) (i : Int) = some (done ++ (spla c ((L.drop fr).take (i - fr)) (L.drop i)).map bs) := by
  intro n
  induction n with
  | zero =>
    intro i fr k done hi hf hk hd
    obtain ⟨k, rfl⟩ : ∃ q, k = q + 1 := ⟨k - 1, by omega⟩
    have hdr : L.drop i = [] := List.drop_eq_nil_of_le (by omega)
    unfold spec_l1Split.l0
    rw [bs_size, if_neg (by omega), if_pos (by omega), if_pos (by omega), if_pos (by omega), hdr, bs_extract]
    simp only [spla, List.map_cons, List.map_nil, Int.toNat_natCast]
    rw [show L.length = i by omega]
  | succ n ih =>
    intro i fr k done hi hf hk hd
    obtain ⟨k, rfl⟩ : ∃ q, k = q + 1 := ⟨k - 1, by omega⟩
    have hil : i < L.length := by omega
    have hb := bt_bs L (i : Int) (by simpa using hil)
    simp only [Int.toNat_natCast] at hb
    have hdr : L.drop i = L[i] :: L.drop (i + 1) := List.drop_eq_getElem_cons hil
    have hw : wrap64 ((i : Int) + 1) = ((i + 1 : Nat) : Int) := by unfold wrap64; omega
    unfold spec_l1Split.l0
    rw [bs_size, if_pos (by omega), if_pos (by omega), hb, hw, hdr]
    by_cases e : L[i] = c
    · rw [if_pos (by rw [e]), if_pos (by omega), if_pos (by omega), if_pos (by omega), if_pos (by omega), bs_extract, ih (i + 1) (i + 1) k _ (by omega) (by omega) (by omega) (by simp; omega)]
      simp only [spla, if_pos e, Int.toNat_natCast, Nat.sub_self, List.take_zero, List.map_cons, List.append_assoc, List.cons_append, List.nil_append]
    · rw [if_neg (by intro z; exact e (UInt8.toNat_inj.1 (by omega))), ih (i + 1) fr k _ (by omega) (by omega) (by omega) (by omega)]
      have ht : (L.drop fr).take (i + 1 - fr) = (L.drop fr).take (i - fr) ++ [L[i]] := by
        rw [show i + 1 - fr = (i - fr) + 1 by omega, List.take_succ_eq_append_getElem (by rw [List.length_drop]; omega)]
        congr 2
        rw [List.getElem_drop]
        congr 1
        omega
      rw [ht]
      simp only [spla, if_neg e]
theorem e_l1Split (k : Nat) (L : List UInt8) (c : UInt8) (hL : L.length ≤ 100000000) (hk : L.length < k) : spec_l1Split.f k (bs L) (c.toNat : Int) = some ((spl c L).map bs) := by
  have := e_l1Split_l0 L hL c L.length 0 0 k [] (by omega) (by omega) hk (by simp)
  simpa [spec_l1Split.f, spl] using this
def dgs (p : List UInt8) : Prop := ∀ x ∈ p, 48 ≤ x.toNat ∧ x.toNat ≤ 57
instance (p : List UInt8) : Decidable (dgs p) := by unfold dgs; infer_instance
def dstep (a : Nat) (x : UInt8) : Nat := 10 * a + (x.toNat - 48)
def numL (acc : Nat) (l : List UInt8) : Nat := l.foldl dstep acc
theorem numL_nil (acc : Nat) : numL acc [] = acc := rfl
theorem numL_cons (acc : Nat) (x : UInt8) (r : List UInt8) : numL acc (x :: r) = numL (10 * acc + (x.toNat - 48)) r := by
  unfold numL
  rw [List.foldl_cons]
  unfold dstep
  exact Eq.refl _
theorem numL_snoc (c : UInt8) (q : List UInt8) (acc : Nat) : numL acc (q ++ [c]) = 10 * numL acc q + (c.toNat - 48) := by
  unfold numL
  rw [List.foldl_append, List.foldl_cons, List.foldl_nil]
  exact dstep.eq_1 _ _
theorem numL_dec (u : Nat) : numL 0 (Lib.decDigits u) = u := by
  induction u using Nat.strongRecOn with
  | _ u ih =>
    rw [Lib.decDigits]
    split
    · rename_i h
      have := ofn u h
      rw [numL_cons, numL_nil]
      omega
    · rename_i h
      have := ofn (u % 10) (by omega)
      rw [numL_snoc, ih (u / 10) (by omega)]
      omega
theorem dec_num (p : List UInt8) : ∀ (n : Nat), p.length = n + 1 → dgs p → (p.head? ≠ some 48 ∨ n = 0) → Lib.decDigits (numL 0 p) = p := by
  intro n
  induction n generalizing p with
  | zero =>
    intro h hd _
    match p, h with
    | [c], _ =>
      have hc := hd c (by simp)
      rw [numL_cons, numL_nil]
      rw [Lib.decDigits, dif_pos (by omega)]
      congr 1
      apply UInt8.toNat_inj.1
      rw [ofn _ (by omega)]
      omega
  | succ n ih =>
    intro h hd hh
    have hh : p.head? ≠ some 48 := hh.resolve_right (by omega)
    obtain ⟨q, c, rfl⟩ : ∃ q c, p = q ++ [c] := ⟨p.dropLast, p.getLast (by intro e; subst e; simp at h), (List.dropLast_concat_getLast _).symm⟩
    have hq : q.length = n + 1 := by simp at h; omega
    have hc := hd c (by simp)
    have hqh : q.head? ≠ some 48 := by
      cases q with
      | nil => simp at hq
      | cons a b => simpa using hh
    have i := ih q hq (fun x hx => hd x (by simp [hx])) (.inl hqh)
    rw [numL_snoc]
    have hz : numL 0 q ≠ 0 := by
      intro e
      rw [e, Lib.decDigits_one (by omega)] at i
      rw [← i] at hqh
      exact hqh rfl
    rw [Lib.decDigits, dif_neg (by omega)]
    have e1 : (10 * numL 0 q + (c.toNat - 48)) / 10 = numL 0 q := by omega
    have e2 : (10 * numL 0 q + (c.toNat - 48)) % 10 = c.toNat - 48 := by omega
    rw [e1, e2, i]
    congr 2
    apply UInt8.toNat_inj.1
    rw [ofn _ (by omega)]
    omega
theorem dec_len : ∀ (k u : Nat), u < 10 ^ (k + 1) → (Lib.decDigits u).length ≤ k + 1
  | k, u, h => by
    rw [Lib.decDigits]
    split
    · simp
    · rename_i hu
      cases k with
      | zero => simp at h; omega
      | succ k =>
        have := dec_len k (u / 10) (by rw [Nat.pow_succ] at h; omega)
        simp only [List.length_append, List.length_cons, List.length_nil]
        omega
theorem dec_pos (u : Nat) : 1 ≤ (Lib.decDigits u).length := by
  have := dig_ne u
  cases h : Lib.decDigits u with
  | nil => exact absurd h this
  | cons a b => simp
theorem dec_long : ∀ (n v : Nat), 10 ^ n ≤ v → n + 1 ≤ (Lib.decDigits v).length
  | 0, v, _ => dec_pos v
  | n + 1, v, hv => by
    rw [Nat.pow_succ] at hv
    have h1 : 1 ≤ 10 ^ n := Nat.one_le_pow _ _ (by omega)
    rw [Lib.decDigits, dif_neg (by omega)]
    have := dec_long n (v / 10) (by omega)
    simp only [List.length_append, List.length_cons, List.length_nil]
    omega
theorem dec_head (u : Nat) (h : 10 ≤ u) : (Lib.decDigits u).head? ≠ some 48 := by
  induction u using Nat.strongRecOn with
  | _ u ih =>
    rw [Lib.decDigits, dif_neg (by omega)]
    have hne := dig_ne (u / 10)
    cases hd : Lib.decDigits (u / 10) with
    | nil => exact absurd hd hne
    | cons a b =>
      by_cases h2 : 10 ≤ u / 10
      · have := ih (u / 10) (by omega) h2
        rw [hd] at this
        simpa using this
      · rw [Lib.decDigits_one (by omega)] at hd
        have e : a = UInt8.ofNat (48 + u / 10) := by have := (List.cons.inj hd).1; exact this.symm
        intro z
        simp only [List.cons_append, List.head?_cons, Option.some.injEq] at z
        rw [e] at z
        have := ofn (u / 10) (by omega)
        rw [z] at this
        have h48 : (48 : UInt8).toNat = 48 := rfl
        omega
theorem e_l1Read_l0 (L : List UInt8) (hL : L.length ≤ 6) : ∀ (n i k acc : Nat), i + n = L.length → n < k → acc < 10 ^ i → spec_l1Read.l0 k (bs L) (acc : Int) (i : Int) = some (if dgs (L.drop i) then (numL acc (L.drop i) : Int) else -1) := by
  intro n
  induction n with
  | zero =>
    intro i k acc hi hk ha
    obtain ⟨k, rfl⟩ : ∃ q, k = q + 1 := ⟨k - 1, by omega⟩
    have hdr : L.drop i = [] := List.drop_eq_nil_of_le (by omega)
    unfold spec_l1Read.l0
    rw [bs_size, if_neg (by omega), hdr, if_pos (by intro x hx; simp at hx)]
    rfl
  | succ n ih =>
    intro i k acc hi hk ha
    obtain ⟨k, rfl⟩ : ∃ q, k = q + 1 := ⟨k - 1, by omega⟩
    have hil : i < L.length := by omega
    have hb := bt_bs L (i : Int) (by simpa using hil)
    simp only [Int.toNat_natCast] at hb
    have hdr : L.drop i = L[i] :: L.drop (i + 1) := List.drop_eq_getElem_cons hil
    have hw : wrap64 ((i : Int) + 1) = ((i + 1 : Nat) : Int) := by unfold wrap64; omega
    have ha5 : acc < 100000 := Nat.lt_of_lt_of_le ha (Nat.pow_le_pow_right (n := 10) (by decide) (show i ≤ 5 by omega))
    unfold spec_l1Read.l0
    rw [bs_size, if_pos (by omega), if_pos (by omega), hb, hw, hdr]
    by_cases c1 : (L[i].toNat : Int) < 48
    · rw [if_pos c1, if_neg (by intro z; have := z L[i] List.mem_cons_self; omega)]
    · by_cases c2 : (L[i].toNat : Int) > 57
      · rw [if_neg c1, if_pos c2, if_neg (by intro z; have := z L[i] List.mem_cons_self; omega)]
      · have e : wrap64 (wrap64 (10 * (acc : Int)) + ((L[i].toNat : Int) - 48) % 256) = ((10 * acc + (L[i].toNat - 48) : Nat) : Int) := by
          clear ih hdr hb hw ha
          generalize L[i].toNat = d at *
          rw [show wrap64 (10 * (acc : Int)) = 10 * (acc : Int) by unfold wrap64; omega, show ((d : Int) - 48) % 256 = (d : Int) - 48 by omega]
          unfold wrap64; omega
        have hpw : 10 * acc + (L[i].toNat - 48) < 10 ^ (i + 1) := by
          rw [Nat.pow_succ]
          generalize 10 ^ i = t at ha
          clear ih hdr hb hw
          omega
        rw [if_neg c1, if_neg c2, e, ih (i + 1) k _ (by omega) (by omega) hpw]
        have hiff : dgs (L[i] :: L.drop (i + 1)) ↔ dgs (L.drop (i + 1)) := ⟨fun z x hx => z x (List.mem_cons_of_mem _ hx), fun z x hx => by rcases List.mem_cons.1 hx with rfl | hx; exact ⟨by omega, by omega⟩; exact z x hx⟩
        simp only [hiff, numL_cons]
/-- The number read, or -1. -/
theorem e_l1Read (k : Nat) (p : List UInt8) (hk : 20 < k) : (∃ u : Nat, u ≤ 999999 ∧ p = Lib.decDigits u ∧ spec_l1Read.f k (bs p) = some (u : Int)) ∨ ((∀ u : Nat, u ≤ 999999 → p ≠ Lib.decDigits u) ∧ spec_l1Read.f k (bs p) = some (-1)) := by
  obtain ⟨k, rfl⟩ : ∃ q, k = q + 1 := ⟨k - 1, by omega⟩
  have hsmall : ∀ u : Nat, u ≤ 999999 → (Lib.decDigits u).length ≤ 6 := fun u hu => dec_len 5 u (by omega)
  have hin : spec_l1In.f (p.length : Int) 1 6 = some (decide (1 ≤ p.length ∧ p.length ≤ 6)) := by
    unfold spec_l1In.f
    by_cases c1 : 1 ≤ p.length
    · rw [if_pos (by omega)]
      congr 1
      rw [decide_eq_decide]
      omega
    · rw [if_neg (by omega), decide_eq_false (by omega)]
  have key1 : ¬ (1 ≤ p.length ∧ p.length ≤ 6) → spec_l1Read.f (k + 1) (bs p) = some (-1) := by
    intro h
    unfold spec_l1Read.f
    rw [bs_size, hin, decide_eq_false h]
    rfl
  have hl0 : p.length ≤ 6 → spec_l1Read.l0 k (bs p) 0 0 = some (if dgs p then (numL 0 p : Int) else -1) := by
    intro h
    have hl := e_l1Read_l0 p h p.length 0 k 0 (by omega) (by omega) (by simp)
    rw [List.drop_zero] at hl
    exact hl
  have key2 : (h : 1 ≤ p.length ∧ p.length ≤ 6) → spec_l1Read.f (k + 1) (bs p) = if p.head? = some 48 ∧ 1 < p.length then some (-1) else some (if dgs p then (numL 0 p : Int) else -1) := by
    intro h
    have hb : bt (bs p) 0 = ((p[0]'(by omega)).toNat : Int) := bt_bs p 0 (by show 0 < p.length; omega)
    have hh : p.head? = some (p[0]'(by omega)) := by rw [List.head?_eq_getElem?, List.getElem?_eq_getElem (by omega)]
    have hj : ∀ b : Bool, spec_l1Read.j0 (k + 1) (bs p) b = if b = true then some (-1) else some (if dgs p then (numL 0 p : Int) else -1) := by
      intro b
      simp only [spec_l1Read.j0, hl0 h.2]
    have h48 : (48 : UInt8).toNat = 48 := rfl
    unfold spec_l1Read.f
    rw [bs_size, hin, decide_eq_true h]
    simp only [Option.bind_some, if_true]
    rw [if_pos (by omega), hb, hj, hj, hh]
    by_cases q : p.head? = some 48 ∧ 1 < p.length
    · have z : p[0]'(by omega) = 48 := by rw [hh] at q; exact Option.some.inj q.1
      rw [← hh, if_pos q, if_pos (by rw [z]; rfl), if_pos (decide_eq_true (by omega))]
    · rw [← hh, if_neg q]
      by_cases z : p[0]'(by omega) = 48
      · have y : ¬ 1 < p.length := fun y => q ⟨by rw [hh, z], y⟩
        rw [if_pos (by rw [z]; rfl), if_neg (by rw [decide_eq_false (by omega)]; simp)]
      · have z2 : ¬ ((p[0]'(by omega)).toNat : Int) = 48 := by intro w; apply z; apply UInt8.toNat_inj.1; omega
        rw [if_neg z2, if_neg (by simp)]
  by_cases ex : ∃ u : Nat, u ≤ 999999 ∧ p = Lib.decDigits u
  · obtain ⟨u, hu, rfl⟩ := ex
    refine .inl ⟨u, hu, rfl, ?_⟩
    rw [key2 ⟨dec_pos u, hsmall u hu⟩]
    have hz : ¬ ((Lib.decDigits u).head? = some 48 ∧ 1 < (Lib.decDigits u).length) := by
      intro ⟨z1, z2⟩
      by_cases h10 : 10 ≤ u
      · exact dec_head u h10 z1
      · rw [Lib.decDigits_one (by omega)] at z2
        simp at z2
    rw [if_neg hz, if_pos (show dgs (Lib.decDigits u) from dig_le u), numL_dec]
  · refine .inr ⟨fun u hu e => ex ⟨u, hu, e⟩, ?_⟩
    by_cases hl : 1 ≤ p.length ∧ p.length ≤ 6
    · rw [key2 hl]
      split
      · rfl
      · rename_i hz
        split
        · rename_i hd
          exfalso
          have e := dec_num p (p.length - 1) (by omega) hd (by
            by_cases h1 : p.length - 1 = 0
            · exact .inr h1
            · exact .inl (fun q => hz ⟨q, by omega⟩))
          refine ex ⟨numL 0 p, ?_, e.symm⟩
          apply Classical.byContradiction
          intro hb
          have := dec_long 6 (numL 0 p) (by omega)
          rw [e] at this
          omega
        · rfl
    · exact key1 hl
/-- A small number's numeral, or none. -/
theorem e_meRead (k : Nat) (p : List UInt8) (hk : 22 < k) (hp : p.length ≤ 100000000) : (∃ n : Int, (-999999 ≤ n ∧ n ≤ 999999) ∧ p = Lib.itoa n ∧ spec_meRead.f k (bs p) = some (n, true)) ∨ ((∀ n : Int, (-999999 ≤ n ∧ n ≤ 999999) → p ≠ Lib.itoa n) ∧ ∃ t, spec_meRead.f k (bs p) = some (t, false)) := by
  obtain ⟨k, rfl⟩ : ∃ q, k = q + 1 := ⟨k - 1, by omega⟩
  have h45 : (45 : UInt8).toNat = 45 := rfl
  by_cases c : 1 < p.length ∧ p.head? = some 45
  · obtain ⟨c1, c2⟩ := c
    obtain ⟨q, rfl⟩ : ∃ q, p = 45 :: q := by
      cases p with
      | nil => simp at c1
      | cons a b => simp at c2; exact ⟨b, by rw [c2]⟩
    have hb : bt (bs (45 :: q)) 0 = 45 := by rw [bt_bs _ 0 (by simp)]; rfl
    have he : (bs (45 :: q)).extract 1 (45 :: q).length = bs q := by rw [bs_extract]; simp
    have hf : spec_meRead.f (k + 1) (bs (45 :: q)) = ((spec_l1Read.f k (bs q)).bind fun t120 => (some (wrap64 (-t120), decide (t120 > 0)))) := by
      unfold spec_meRead.f
      rw [bs_size, if_pos (by omega), if_pos (by omega), hb]
      simp only [spec_meRead.j0, beq_self_eq_true, if_true, bs_size]
      rw [if_pos (by simp only [List.length_cons] at c1 ⊢; omega), he]
    rcases e_l1Read k q (by omega) with ⟨u, hu, rfl, h⟩ | ⟨hn, h⟩
    · rw [hf, h]
      simp only [Option.bind_some]
      by_cases z : u = 0
      · subst z
        refine .inr ⟨fun n hn e => ?_, _, rfl⟩
        unfold Lib.itoa at e
        split at e
        · have := List.tail_eq_of_cons_eq e
          have a := numL_dec n.natAbs
          rw [← this, numL_dec] at a
          omega
        · have hd := dig_le n.toNat 45 (by rw [← e]; simp)
          omega
      · refine .inl ⟨-(u : Int), by omega, ?_, ?_⟩
        · rw [Lib.itoa_neg u (by omega)]
        · rw [decide_eq_true (by omega)]
          congr 2
          unfold wrap64; omega
    · rw [hf, h]
      refine .inr ⟨fun n hn' e => ?_, wrap64 (- -1), by simp⟩
      unfold Lib.itoa at e
      split at e
      · exact hn n.natAbs (by omega) (List.tail_eq_of_cons_eq e)
      · have hd := dig_le n.toNat 45 (by rw [← e]; simp)
        omega
  · have hf : spec_meRead.f (k + 1) (bs p) = ((spec_l1Read.f k (bs p)).bind fun t121 => (some (t121, decide (t121 ≥ 0)))) := by
      unfold spec_meRead.f
      rw [bs_size]
      by_cases c1 : 1 < p.length
      · have hh : p.head? = some p[0] := by rw [List.head?_eq_getElem?, List.getElem?_eq_getElem (by omega)]
        have hb : bt (bs p) 0 = (p[0].toNat : Int) := bt_bs p 0 (by simp; omega)
        have hne : p[0] ≠ 45 := fun z => c ⟨c1, by rw [hh, z]⟩
        have hq : (bt (bs p) 0 == 45) = false := by
          rw [hb, beq_eq_false_iff_ne]
          intro z
          exact hne (UInt8.toNat_inj.1 (by omega))
        rw [if_pos (by omega), if_pos (by omega), hq]
        simp [spec_meRead.j0]
      · rw [if_neg (by omega)]
        simp [spec_meRead.j0]
    rcases e_l1Read k p (by omega) with ⟨u, hu, rfl, h⟩ | ⟨hn, h⟩
    · refine .inl ⟨u, by omega, (Lib.itoa_nonneg u).symm, ?_⟩
      rw [hf, h]
      simp only [Option.bind_some]
      rw [decide_eq_true (by omega)]
    · refine .inr ⟨fun n hn' e => ?_, -1, by rw [hf, h]; rfl⟩
      unfold Lib.itoa at e
      split at e
      · apply c
        rw [e]
        have := dec_pos n.natAbs
        exact ⟨by simp only [List.length_cons]; omega, rfl⟩
      · exact hn n.toNat (by omega) e
/-- One word, as the reference reads it: small numbers alone. -/
def smallW (x : S25) : Prop := (-999999 ≤ x.f0 ∧ x.f0 ≤ 999999) ∧ (-999999 ≤ x.f1 ∧ x.f1 ≤ 999999)
instance (x : S25) : Decidable (smallW x) := by unfold smallW; infer_instance
def pwS (p : List UInt8) : Option S25 := match pwW p with | some x => if smallW x then some x else none | none => none
def pwSF : List (List UInt8) → Option (List S25)
  | [] => some []
  | p :: r => match pwS p with
    | none => none
    | some x => (pwSF r).map (x :: ·)
theorem pwW_some {p : List UInt8} {x : S25} (h : pwW p = some x) : spl 58 p = [Lib.itoa x.f0, Lib.itoa x.f1] ∧ (-9223372036854775808 ≤ x.f0 ∧ x.f0 ≤ 9223372036854775807) ∧ (-9223372036854775808 ≤ x.f1 ∧ x.f1 ≤ 9223372036854775807) := by
  unfold pwW at h
  split at h
  · rename_i a b hr
    obtain rfl := Option.some.inj h
    exact rdN_two hr
  · cases h
theorem pwW_of {p : List UInt8} {a b : Int} (ha : -9223372036854775808 ≤ a ∧ a ≤ 9223372036854775807) (hb : -9223372036854775808 ≤ b ∧ b ≤ 9223372036854775807) (h : spl 58 p = [Lib.itoa a, Lib.itoa b]) : pwW p = some ⟨a, b⟩ := by
  unfold pwW
  rw [h, rdN_pair a b ha hb]
/-- What the reference does with one word. -/
theorem word_S (k : Nat) (p : List UInt8) (hk : p.length + 30 < k) (hp : p.length ≤ 100) (X : S25 → Option (List S25 × Bool)) :
    ((spec_l1Split.f k (bs p) 58).bind fun t127 => (if (t127.length : Int) = 2 then (if 0 < (t127.length : Int) then ((spec_meRead.f k (rdOf ByteArray.empty t127 0)).bind fun bt131 => (if 1 < (t127.length : Int) then ((spec_meRead.f k (rdOf ByteArray.empty t127 1)).bind fun bt134 => (if bt131.2 = true then (if bt134.2 = true then X ⟨bt131.1, bt134.1⟩ else (some (([] : List S25), false))) else (some (([] : List S25), false)))) else (none))) else (none)) else (some (([] : List S25), false)))) =
      match pwS p with | some x => X x | none => some ([], false) := by
  have h58 : ((58 : UInt8).toNat : Int) = 58 := rfl
  have hs := e_l1Split k p 58 (by omega) (by omega)
  rw [h58] at hs
  rw [hs]
  simp only [Option.bind_some, List.length_map]
  have hmem := spla_mem_le 58 p []
  rw [show spla 58 [] p = spl 58 p from rfl] at hmem
  by_cases c : (spl 58 p).length = 2
  · obtain ⟨a, b, hab⟩ : ∃ a b, spl 58 p = [a, b] := by
      match hq : spl 58 p, c with
      | [a, b], _ => exact ⟨a, b, rfl⟩
    have hla := hmem a (by rw [hab]; simp)
    have hlb := hmem b (by rw [hab]; simp)
    simp only [List.length_nil] at hla hlb
    have hlen : ((spl 58 p).length : Int) = 2 := by rw [c]; rfl
    simp only [hlen]
    simp only [show ((0 : Int) < 2) = True from eq_true (by decide), show ((1 : Int) < 2) = True from eq_true (by decide), if_true]
    rw [hab]
    have r0 : rdOf ByteArray.empty ([a, b].map bs) 0 = bs a := rfl
    have r1 : rdOf ByteArray.empty ([a, b].map bs) 1 = bs b := rfl
    rw [r0, r1]
    rcases e_meRead k a (by omega) (by omega) with ⟨m, hm, rfl, h1⟩ | ⟨hm, t, h1⟩
    · rcases e_meRead k b (by omega) (by omega) with ⟨n, hn, rfl, h2⟩ | ⟨hn, t, h2⟩
      · rw [h1, h2]
        simp only [Option.bind_some, if_true]
        have e : pwS p = some ⟨m, n⟩ := by
          unfold pwS
          rw [pwW_of (by omega) (by omega) hab]
          simp only
          rw [if_pos ⟨hm, hn⟩]
        rw [e]
      · rw [h1, h2]
        simp only [Option.bind_some, if_true, Bool.false_eq_true, if_false]
        have e : pwS p = none := by
          unfold pwS
          cases hw : pwW p with
          | none => rfl
          | some x =>
            obtain ⟨e1, _, _⟩ := pwW_some hw
            rw [hab] at e1
            have e2 := (List.cons.inj (List.cons.inj e1).2).1
            simp only
            rw [if_neg (fun z => hn x.f1 z.2 e2)]
        rw [e]
    · obtain ⟨t2, b2, h2⟩ : ∃ t2 b2, spec_meRead.f k (bs b) = some (t2, b2) := by
        rcases e_meRead k b (by omega) (by omega) with ⟨n, hn, _, h2⟩ | ⟨hn, t, h2⟩
        · exact ⟨_, _, h2⟩
        · exact ⟨_, _, h2⟩
      rw [h1, h2]
      simp only [Option.bind_some, Bool.false_eq_true, if_false]
      have e : pwS p = none := by
        unfold pwS
        cases hw : pwW p with
        | none => rfl
        | some x =>
          obtain ⟨e1, _, _⟩ := pwW_some hw
          rw [hab] at e1
          have e2 := (List.cons.inj e1).1
          simp only
          rw [if_neg (fun z => hm x.f0 z.1 e2)]
      rw [e]
  · rw [if_neg (by omega)]
    have e : pwS p = none := by
      unfold pwS
      cases hw : pwW p with
      | none => rfl
      | some x =>
        obtain ⟨e1, _, _⟩ := pwW_some hw
        rw [e1] at c
        exact absurd rfl c
    rw [e]
theorem e_meParse_l0 (ws_ : List (List UInt8)) (hlen : ws_.length ≤ 101) (hw : ∀ p ∈ ws_, p.length ≤ 100) : ∀ (n i k : Nat) (done : List S25), i + n = ws_.length → n + 200 < k → done.length = i →
    spec_meParse.l0 k done (ws_.map bs) (ws_.length : Int) (i : Int) = some (match pwSF (ws_.drop i) with | some l => (if ws (done ++ l) then (done ++ l, true) else ([], false)) | none => ([], false)) := by
  intro n
  induction n with
  | zero =>
    intro i k done hi hk hd
    obtain ⟨k, rfl⟩ : ∃ q, k = q + 1 := ⟨k - 1, by omega⟩
    have hdr : ws_.drop i = [] := List.drop_eq_nil_of_le (by omega)
    unfold spec_meParse.l0
    rw [if_neg (by omega), hdr, e_meAll k done (by omega) (by omega)]
    simp only [Option.bind_some, pwSF, List.append_nil, decide_eq_true_eq]
    split <;> rfl
  | succ n ih =>
    intro i k done hi hk hd
    obtain ⟨k, rfl⟩ : ∃ q, k = q + 1 := ⟨k - 1, by omega⟩
    have hil : i < ws_.length := by omega
    have hdr : ws_.drop i = ws_[i] :: ws_.drop (i + 1) := List.drop_eq_getElem_cons hil
    have hrd : rdOf ByteArray.empty (ws_.map bs) (i : Int) = bs ws_[i] := by simp [rdOf, List.getD_eq_getElem?_getD, hil]
    have hpl := hw ws_[i] (List.getElem_mem _)
    have hw64 : wrap64 ((i : Int) + 1) = ((i + 1 : Nat) : Int) := by unfold wrap64; omega
    unfold spec_meParse.l0
    rw [if_pos (by omega), if_pos (by omega), if_pos (by simp; omega), hrd, hw64, hdr]
    have hX := word_S k ws_[i] (by omega) hpl (fun x => if done.length < 8796093022208 then spec_meParse.l0 k (done ++ [x]) (ws_.map bs) (ws_.length : Int) ((i + 1 : Nat) : Int) else none)
    rw [hX]
    simp only [pwSF]
    cases hq : pwS ws_[i] with
    | none => rfl
    | some x =>
      simp only
      rw [if_pos (by omega), ih (i + 1) k (done ++ [x]) (by omega) (by omega) (by simp; omega)]
      cases pwSF (ws_.drop (i + 1)) with
      | none => rfl
      | some l => simp only [Option.map_some, List.append_assoc, List.cons_append, List.nil_append]
theorem pwSF_F (ps : List (List UInt8)) : (∃ l, pwSF ps = some l ∧ pwF ps = some l) ∨ (pwSF ps = none ∧ (pwF ps = none ∨ ∃ l, pwF ps = some l ∧ ¬ ws l)) := by
  have hbig : ∀ x : S25, ¬ smallW x → ¬ gk x.f0 x.f1 := by
    intro x hx hg
    apply hx
    unfold gk at hg
    unfold smallW
    omega
  have gen : (∃ l, pwSF ps = some l ∧ pwF ps = some l) ∨ (pwSF ps = none ∧ (pwF ps = none ∨ ∃ l, pwF ps = some l ∧ ∃ x ∈ l, ¬ gk x.f0 x.f1)) := by
    induction ps with
    | nil => exact .inl ⟨[], rfl, rfl⟩
    | cons p r ih =>
      simp only [pwSF, pwF]
      cases hw : pwW p with
      | none => exact .inr ⟨by simp [pwS, hw], .inl rfl⟩
      | some x =>
        by_cases hx : smallW x
        · have e : pwS p = some x := by simp [pwS, hw, hx]
          rw [e]
          rcases ih with ⟨l, h1, h2⟩ | ⟨h1, h2 | ⟨l, h2, y, hy, hg⟩⟩
          · exact .inl ⟨x :: l, by simp [h1], by simp [h2]⟩
          · exact .inr ⟨by simp [h1], .inl (by simp [h2])⟩
          · exact .inr ⟨by simp [h1], .inr ⟨x :: l, by simp [h2], y, by simp [hy], hg⟩⟩
        · have e : pwS p = none := by simp [pwS, hw, hx]
          rw [e]
          cases hr : pwF r with
          | none => exact .inr ⟨rfl, .inl rfl⟩
          | some l => exact .inr ⟨rfl, .inr ⟨x :: l, rfl, x, by simp, hbig x hx⟩⟩
  rcases gen with h | ⟨h1, h2 | ⟨l, h2, x, hx, hg⟩⟩
  · exact .inl h
  · exact .inr ⟨h1, .inl h2⟩
  · exact .inr ⟨h1, .inr ⟨l, h2, fun z => hg (z.2 x hx)⟩⟩
/-- A list of words that all read as walkers is the words' text. -/
theorem pwF_words {ps : List (List UInt8)} {l : List S25} (h : pwF ps = some l) : ps = l.map fun x => j2 x.f0 x.f1 [58] := by
  induction ps generalizing l with
  | nil => simp only [pwF, Option.some.injEq] at h; subst h; rfl
  | cons q r ih =>
    simp only [pwF] at h
    cases hq : pwW q with
    | none => rw [hq] at h; cases h
    | some u =>
      rw [hq] at h
      simp only [Option.map_eq_some_iff] at h
      obtain ⟨m, hm, rfl⟩ := h
      have e := (pwW_some hq).1
      have j := spl_join 58 q
      rw [e] at j
      rw [List.map_cons, ← ih hm]
      congr 1
      rw [← j]
      rfl
theorem itoa_len (n : Int) (k : Nat) (h : n.natAbs < 10 ^ (k + 1)) : (Lib.itoa n).length ≤ k + 2 := by
  unfold Lib.itoa
  split
  · have := dec_len k n.natAbs h
    simp only [List.length_cons]; omega
  · have := dec_len k n.toNat (by rw [show n.toNat = n.natAbs by omega]; exact h)
    omega
theorem ws_text_len (l : List S25) (h : ws l) : (Lib.join (l.map fun x => j2 x.f0 x.f1 [58]) [44]).length ≤ 100 := by
  obtain ⟨⟨h1, h8⟩, hx⟩ := h
  have one : ∀ x ∈ l, (j2 x.f0 x.f1 [58]).length ≤ 11 := by
    intro x hm
    have hg := hx x hm
    unfold gk at hg
    have a := itoa_len x.f0 3 (by omega)
    have b := itoa_len x.f1 2 (by omega)
    rw [j2_eq]
    simp only [List.length_append, List.length_cons, List.length_nil]
    omega
  clear hx
  cases l with
  | nil => simp [Lib.join_nil]
  | cons y r =>
    rw [List.map_cons, Lib.join_cons, List.length_append, Lib.joinTail_length]
    have h0 := one y (by simp)
    have hl : Lib.lens (r.map fun x : S25 => j2 x.f0 x.f1 [58]) ≤ 11 * r.length := by
      have hr : ∀ x ∈ r, (j2 x.f0 x.f1 [58]).length ≤ 11 := fun x hm => one x (by simp [hm])
      clear h1 h8 one h0
      induction r with
      | nil => simp [Lib.lens]
      | cons z q ih =>
        have a := ih (fun x hm => hr x (by simp [hm]))
        have b := hr z (by simp)
        simp only [Lib.lens, List.map_cons, List.sum_cons, List.length_cons] at a ⊢
        omega
    simp only [List.length_map, List.length_cons, List.length_nil] at hl h8 ⊢
    omega
theorem e_ParseWalkers (k : Nat) (s : ByteArray) (hs : s.size ≤ 2000000) (hk : 3000000 < k) : spec_ParseWalkers.f k s = some (pwRes (pwF (spl 44 s.data.toList))) := by
  have hsz : s.data.toList.length = s.size := (Lib.size_eq s).symm
  have hlF := spl_length_le 44 s.data.toList []
  rw [show spla 44 [] s.data.toList = spl 44 s.data.toList from rfl] at hlF
  have hres : ∀ l, pwF (spl 44 s.data.toList) = some l → pwRes (some l) = if ws l then (l, true) else ([], false) := by
    intro l hl
    have := pwF_len hl
    unfold pwRes
    simp only
    rw [e_AreWalkers l (by omega)]
    by_cases c : ws l
    · simp [c]
    · simp [c]
  unfold spec_ParseWalkers.f spec_meParse.f
  by_cases c : (s.size : Int) > 100
  · rw [if_pos c]
    simp only [Option.bind_some]
    cases hp : pwF (spl 44 s.data.toList) with
    | none => rfl
    | some l =>
      rw [hres l hp, if_neg]
      intro hw
      have h1 := ws_text_len l hw
      rw [← pwF_words hp, spl_join] at h1
      omega
  · have h44 : ((44 : UInt8).toNat : Int) = 44 := rfl
    have hsp := e_l1Split k s.data.toList 44 (by omega) (by omega)
    rw [h44, bs_of] at hsp
    rw [if_neg c, hsp]
    simp only [Option.bind_some]
    have hmem := spla_mem_le 44 s.data.toList []
    rw [show spla 44 [] s.data.toList = spl 44 s.data.toList from rfl] at hmem
    have hl0 := e_meParse_l0 (spl 44 s.data.toList) (by omega) (fun p hp => by have := hmem p hp; simp only [List.length_nil] at this; omega) (spl 44 s.data.toList).length 0 k [] (by omega) (by omega) rfl
    simp only [List.drop_zero, List.nil_append] at hl0
    rw [List.length_map]
    have h00 : ((0 : Nat) : Int) = 0 := rfl
    rw [h00] at hl0
    rw [hl0]
    rcases pwSF_F (spl 44 s.data.toList) with ⟨l, h1, h2⟩ | ⟨h1, h2 | ⟨l, h2, hn⟩⟩
    · rw [h1, h2, hres l h2]
      simp only [Option.bind_some]
    · rw [h1, h2]; rfl
    · rw [h1, h2, hres l h2, if_neg hn]; rfl

theorem e_yLow_l0 : ∀ (b a : Nat) (k : Nat), b < k → laws_yLow.l0 k (a : Int) (b : Int) = some (((Nat.gcd a b : Nat) : Int) == 1) := by
  intro b
  induction b using Nat.strongRecOn with
  | ind b ih =>
    intro a k hk
    obtain ⟨k, rfl⟩ : ∃ m, k = m + 1 := ⟨k - 1, by omega⟩
    simp only [laws_yLow.l0]
    by_cases h : b = 0
    · subst h; simp
    · have hm := Nat.mod_lt a (show b > 0 by omega)
      rw [if_pos (by omega), if_neg (by omega), Int.tmod_eq_emod_of_nonneg (by omega), ← Int.natCast_emod, ih (a % b) hm b k (by omega)]
      have e : Nat.gcd b (a % b) = Nat.gcd a b := by rw [Nat.gcd_comm a b, Nat.gcd_rec b a, Nat.gcd_comm]
      rw [e]
theorem e_yLow (k : Nat) (a b : Int) (hb : 1 ≤ b) (ha : -9000000000000000000 ≤ a) (g : Int.gcd a b = 1) (hk : b + 2 < k) : laws_yLow.f k a b = some true := by
  unfold laws_yLow.f
  rw [if_neg (by omega)]
  obtain ⟨k, rfl⟩ : ∃ m, k = m + 1 := ⟨k - 1, by omega⟩
  have h := e_yLow_l0 b.natAbs a.natAbs k (by omega)
  have g' : Nat.gcd a.natAbs b.natAbs = 1 := g
  rw [g', show ((b.natAbs : Nat) : Int) = b by omega] at h
  by_cases c : a < 0
  · rw [if_pos c, w64 _ (by omega) (by omega)]
    rw [show ((a.natAbs : Nat) : Int) = -a by omega] at h
    simp only [laws_yLow.j0]; rw [h]; rfl
  · rw [if_neg c]
    rw [show ((a.natAbs : Nat) : Int) = a by omega] at h
    simp only [laws_yLow.j0]; rw [h]; rfl
theorem e_ySame_l0 (r : List Int) (hl : r.length ≤ 100000) : ∀ (n i k : Nat), i + n = r.length → n < k → laws_ySame.l0 k r r (r.length : Int) (i : Int) = some true := by
  intro n
  induction n with
  | zero =>
    intro i k hi hk
    obtain ⟨k, rfl⟩ : ∃ m, k = m + 1 := ⟨k - 1, by omega⟩
    simp only [laws_ySame.l0]; rw [if_neg (by omega)]
  | succ n ih =>
    intro i k hi hk
    obtain ⟨k, rfl⟩ : ∃ m, k = m + 1 := ⟨k - 1, by omega⟩
    simp only [laws_ySame.l0]
    rw [if_pos (by omega), if_pos (by omega), if_pos (by omega), if_pos (by omega), if_pos trivial, w64 _ (by omega) (by omega), show ((i : Int) + 1) = ((i + 1 : Nat) : Int) by omega]
    exact ih (i + 1) k (by omega) (by omega)
theorem e_ySame (k : Nat) (r : List Int) (hl : r.length ≤ 100000) (hk : r.length < k) : laws_ySame.f k r r = some true := by
  unfold laws_ySame.f; rw [if_pos rfl]; exact e_ySame_l0 r hl r.length 0 k (by omega) hk
theorem e_yRows_l0 (rs : List (List Int)) (hr : ∀ r ∈ rs, r.length = 4) (hl : rs.length ≤ 100000) : ∀ (n i k : Nat), i + n = rs.length → n + 100 < k → laws_yRows.l0 k rs rs (rs.length : Int) (i : Int) = some true := by
  intro n
  induction n with
  | zero =>
    intro i k hi hk
    obtain ⟨k, rfl⟩ : ∃ m, k = m + 1 := ⟨k - 1, by omega⟩
    simp only [laws_yRows.l0]; rw [if_neg (by omega)]
  | succ n ih =>
    intro i k hi hk
    obtain ⟨k, rfl⟩ : ∃ m, k = m + 1 := ⟨k - 1, by omega⟩
    simp only [laws_yRows.l0]
    have h4 : (jf rs (i : Int)).length = 4 := by
      unfold jf
      have hi' : (i : Int).toNat < rs.length := by omega
      rw [List.getD_eq_getElem?_getD, List.getElem?_eq_getElem hi', Option.getD_some]
      exact hr _ (List.getElem_mem hi')
    rw [if_pos (by omega), if_pos (by omega), if_pos (by omega), if_pos (by omega), e_ySame k _ (by omega) (by omega)]
    simp only [Option.bind_some, if_true]
    rw [w64 _ (by omega) (by omega), show ((i : Int) + 1) = ((i + 1 : Nat) : Int) by omega]
    exact ih (i + 1) k (by omega) (by omega)
theorem e_yRows (k : Nat) (rs : List (List Int)) (hr : ∀ r ∈ rs, r.length = 4) (hl : rs.length ≤ 100000) (hk : 200000 < k) : laws_yRows.f k rs rs = some true := by
  unfold laws_yRows.f; rw [if_pos rfl]; exact e_yRows_l0 rs hr hl rs.length 0 k (by omega) (by omega)
theorem e_yWalkers_l0 (l : List S25) (hl : (l.length : Int) ≤ 9000000000000000000) : ∀ (n i k : Nat), i + n = l.length → n < k → laws_yWalkers.l0 k l l (l.length : Int) (i : Int) = some true := by
  intro n
  induction n with
  | zero =>
    intro i k hi hk
    obtain ⟨k, rfl⟩ : ∃ m, k = m + 1 := ⟨k - 1, by omega⟩
    simp only [laws_yWalkers.l0]; rw [if_neg (by omega)]
  | succ n ih =>
    intro i k hi hk
    obtain ⟨k, rfl⟩ : ∃ m, k = m + 1 := ⟨k - 1, by omega⟩
    simp only [laws_yWalkers.l0]
    rw [if_pos (by omega), if_pos (by omega), if_pos (by omega), if_pos (by omega), if_neg (by simp), w64 _ (by omega) (by omega), show ((i : Int) + 1) = ((i + 1 : Nat) : Int) by omega]
    exact ih (i + 1) k (by omega) (by omega)
theorem e_yWalkers (k : Nat) (l : List S25) (hl : (l.length : Int) ≤ 9000000000000000000) (hk : l.length < k) : laws_yWalkers.f k l l = some true := by
  unfold laws_yWalkers.f; rw [if_pos rfl]; exact e_yWalkers_l0 l hl l.length 0 k (by omega) hk
theorem low_gcd (n d : Int) (hd : d ≠ 0) : Int.gcd (lowN n d) (lowD n d) = 1 := by
  have hg := gcd_pos n d hd
  have h := Int.gcd_ediv_gcd_ediv_gcd (i := n) (j := d) (by omega)
  unfold lowN lowD
  by_cases c : d < 0
  · rw [if_pos c, if_pos c, Int.neg_ediv_of_dvd (Int.gcd_dvd_left n d), Int.neg_ediv_of_dvd (Int.gcd_dvd_right n d), Int.gcd_neg, Int.neg_gcd]; exact h
  · rw [if_neg c, if_neg c]; exact h
theorem low_sym (n d : Int) (hd : d ≠ 0) : lowN (-n) (-d) = lowN n d ∧ lowD (-n) (-d) = lowD n d := by
  unfold lowN lowD
  rw [Int.gcd_neg, Int.neg_gcd]
  by_cases c : d < 0
  · rw [if_neg (show ¬ -d < 0 by omega), if_pos c, if_neg (show ¬ -d < 0 by omega), if_pos c]; exact ⟨rfl, rfl⟩
  · rw [if_pos (show -d < 0 by omega), if_neg c, if_pos (show -d < 0 by omega), if_neg c, Int.neg_neg, Int.neg_neg]; exact ⟨rfl, rfl⟩
theorem meet_cases (p s p' s' : Int) (h : (meetV p s p' s').2.2 = true) : (p = p' ∧ meetV p s p' s' = (0, 1, true)) ∨ (¬ p = p' ∧ ¬ s = s' ∧ ¬ lowN (p' - p) (s - s') < 0 ∧ meetV p s p' s' = (lowN (p' - p) (s - s'), lowD (p' - p) (s - s'), true)) := by
  unfold meetV at h ⊢
  by_cases c : p = p'
  · exact .inl ⟨c, by rw [if_pos c]⟩
  · by_cases c2 : s = s'
    · rw [if_neg c, if_pos c2] at h; simp at h
    · by_cases c3 : lowN (p' - p) (s - s') < 0
      · rw [if_neg c, if_neg c2, if_pos c3] at h; simp at h
      · exact .inr ⟨c, c2, c3, by rw [if_neg c, if_neg c2, if_neg c3]⟩
theorem meet_eqs (p s p' s' : Int) (h : (meetV p s p' s').2.2 = true) : placeV p' s' (meetV p s p' s').1 (meetV p s p' s').2.1 = placeV p s (meetV p s p' s').1 (meetV p s p' s').2.1 ∧ Int.gcd (meetV p s p' s').1 (meetV p s p' s').2.1 = 1 ∧ meetV p' s' p s = meetV p s p' s' := by
  rcases meet_cases p s p' s' h with ⟨c, e⟩ | ⟨c, c2, c3, e⟩
  · rw [e]; subst c
    refine ⟨by simp [placeV], by simp, by unfold meetV; rw [if_pos rfl]⟩
  · rw [e]
    have hd : s - s' ≠ 0 := by omega
    have x := low_cross (p' - p) (s - s') hd
    have y := low_sym (p' - p) (s - s') hd
    refine ⟨?_, low_gcd _ _ hd, ?_⟩
    · simp only
      generalize lowN (p' - p) (s - s') = N at *
      generalize lowD (p' - p) (s - s') = D at *
      unfold placeV
      rw [Int.mul_sub, Int.mul_sub] at x
      rw [Int.mul_comm p' D, Int.mul_comm s' N, Int.mul_comm p D, Int.mul_comm s N]
      omega
    · rw [show -(p' - p) = p - p' by omega, show -(s - s') = s' - s by omega] at y
      unfold meetV
      rw [if_neg (by omega), if_neg (by omega), y.1, y.2, if_neg c3]
theorem mt_ok {p s p' s' : Int} (h : (mtV p s p' s').2.2 = true) : gk p s ∧ gk p' s' ∧ mtV p s p' s' = meetV p s p' s' ∧ (meetV p s p' s').2.2 = true := by
  unfold mtV at h ⊢
  by_cases c : gk p s ∧ gk p' s'
  · rw [if_pos c] at h ⊢; exact ⟨c.1, c.2, rfl, h⟩
  · rw [if_neg c] at h; simp at h
theorem mp_third (p s p' s' : Int) : (mpV p s p' s').2.2 = (mtV p s p' s').2.2 := by
  unfold mpV mtV
  by_cases c : gk p s ∧ gk p' s'
  · rw [if_pos c]
    by_cases c2 : (meetV p s p' s').2.2 = true
    · rw [if_pos ⟨c, c2⟩, c2]
    · rw [if_neg (fun h => c2 h.2)]
      cases h : (meetV p s p' s').2.2
      · rfl
      · exact absurd h c2
  · rw [if_neg c, if_neg (fun h => c h.1)]
theorem wplace (p s num den : Int) (g : gk p s) (h1 : 0 ≤ num ∧ num ≤ 1000000) (h2 : 0 ≤ den ∧ den ≤ 1000) : wrap64 (wrap64 (p * den) + wrap64 (s * num)) = placeV p s num den := by
  unfold gk at g
  have a := abs_mul p den 1000 1000 ⟨by omega, by omega⟩ h2
  have b := abs_mul s num 100 1000000 ⟨by omega, by omega⟩ h1
  rw [w64 (p * den) (by omega) (by omega), w64 (s * num) (by omega) (by omega), w64 _ (by omega) (by omega)]
  rfl
theorem wsz (p s p' s' m n : Int) (g : gk p s) (g' : gk p' s') (h1 : 0 ≤ m ∧ m ≤ 1000000) (h2 : 0 ≤ n ∧ n ≤ 1000) : wrap64 (wrap64 (wrap64 (p - p') * n) + wrap64 (wrap64 (s - s') * m)) = placeV p s m n - placeV p' s' m n := by
  unfold gk at g g'
  rw [w64 (p - p') (by omega) (by omega), w64 (s - s') (by omega) (by omega)]
  have a := abs_mul (p - p') n 2000 1000 ⟨by omega, by omega⟩ h2
  have b := abs_mul (s - s') m 200 1000000 ⟨by omega, by omega⟩ h1
  rw [w64 ((p - p') * n) (by omega) (by omega), w64 ((s - s') * m) (by omega) (by omega), w64 _ (by omega) (by omega)]
  unfold placeV
  rw [Int.sub_mul, Int.sub_mul]
  omega
theorem ga_sym (p s p' s' m n : Int) : gaV p' s' p s m n = gaV p s p' s' m n := by
  have e : gapV p' s' p s m n = gapV p s p' s' m n := by unfold gapV; omega
  unfold gaV
  rw [e]
  by_cases c : (gk p s ∧ gk p' s') ∧ gt m n
  · rw [if_pos c, if_pos ⟨⟨c.1.2, c.1.1⟩, c.2⟩]
  · rw [if_neg c, if_neg (fun h => c ⟨⟨h.1.2, h.1.1⟩, h.2⟩)]

theorem an_yl (N : Nat) (a b : Int) (hb : 1 ≤ b) (ha : -9000000000000000000 ≤ a) (g : Int.gcd a b = 1) (hk : b + 2 < N) : An 12 #[.int .i64 a, .int .i64 b] (.bool true) :=
  fun W => (laws_yLow.calls N a b true W (e_yLow N a b hb ha g hk)).mono fun e w' h => ⟨h.1, by first | exact h.2 | exact h.2.below⟩
theorem f1_all (N : Nat) (hN : 400000000 < N) (p s p' s' : Int) (h : (mtV p s p' s').2.2 = true) : decide (gk p s) = true ∧ FOk p s p' s' (mtV p s p' s').1 (mtV p s p' s').2.1 (mpV p s p' s').1 (mpV p s p' s').2.1 := by
  obtain ⟨g, g', e, hm⟩ := mt_ok h
  have bd := meet_bd p s p' s' g g' hm
  obtain ⟨q1, q2, q3⟩ := meet_eqs p s p' s' hm
  have hmp : mpV p s p' s' = (lowN (placeV p s (meetV p s p' s').1 (meetV p s p' s').2.1) (meetV p s p' s').2.1, lowD (placeV p s (meetV p s p' s').1 (meetV p s p' s').2.1) (meetV p s p' s').2.1, true) := by
    unfold mpV; rw [if_pos ⟨⟨g, g'⟩, hm⟩]
  have back : impl_MeetingTime.f N p' s' p s = some (meetV p s p' s') := by
    rw [e_iMeetingTime N p' s' p s (by omega), ← q3]; unfold mtV; rw [if_pos ⟨g', g⟩]
  have hgk := g
  rw [hmp, e]
  generalize meetV p s p' s' = M at *
  obtain ⟨num, den, ok⟩ := M
  simp only at *
  subst hm
  have w1 := wplace p s num den g (by omega) (by omega)
  have w2 := wplace p' s' num den g' (by omega) (by omega)
  have hP := (e_placeAt' p s num den 1000000 1000 g (by omega) (by omega) (by omega) (by omega)).2
  have hd : den ≠ 0 := by omega
  have lb := low_bd (placeV p s num den) den 101000000 hd hP (by omega)
  refine ⟨decide_eq_true hgk, ?_, ?_, by omega, fun W => impl_MeetingTime.calls N p' s' p s num den true W back, an_yl N num den (by omega) (by omega) q2 (by omega), an_yl N _ _ lb.2.1 (by omega) (low_gcd _ _ hd) (by omega)⟩
  · rw [w1, low_cross _ _ hd]; simp
  · rw [w2, q1, low_cross _ _ hd]; simp
theorem f2_all (p s p' s' : Int) (h : (mtV p s p' s').2.2 = false) (g : decide (gk p s) = true) (g' : decide (gk p' s') = true) : FNo p s p' s' := by
  have g := of_decide_eq_true g
  have g' := of_decide_eq_true g'
  unfold mtV at h
  rw [if_pos ⟨g, g'⟩] at h
  unfold gk at g g'
  unfold meetV at h
  by_cases c : p = p'
  · rw [if_pos c] at h; simp at h
  · refine ⟨c, ?_⟩
    rw [w64 (p' - p) (by omega) (by omega), w64 (s - s') (by omega) (by omega)]
    by_cases c2 : s = s'
    · rw [show s - s' = 0 by omega, Int.mul_zero, w64 _ (by omega) (by omega)]; omega
    · by_cases c3 : lowN (p' - p) (s - s') < 0
      · have k := (lowN_neg (p' - p) (s - s') (by omega)).1 c3
        by_cases c4 : s - s' < 0
        · rw [if_pos c4] at k
          have a := abs_mul (p' - p) (-(s - s')) 2000 200 ⟨by omega, by omega⟩ ⟨by omega, by omega⟩
          have b := Int.mul_nonneg (show 0 ≤ p' - p by omega) (show 0 ≤ -(s - s') by omega)
          rw [Int.mul_neg] at a b
          rw [w64 _ (by omega) (by omega)]; omega
        · rw [if_neg c4] at k
          have a := abs_mul (p' - p) (s - s') 2000 200 ⟨by omega, by omega⟩ ⟨by omega, by omega⟩
          have b := Int.mul_nonneg (show 0 ≤ -(p' - p) by omega) (show 0 ≤ s - s' by omega)
          rw [Int.neg_mul] at b
          rw [w64 _ (by omega) (by omega)]; omega
      · rw [if_neg c, if_neg c2, if_neg c3] at h; simp at h
theorem f9_all (N : Nat) (hN : 400000000 < N) (q z top low : Int) (h : (wpV q z top low).2.2 = true) : FNine q z top low (wpV q z top low).1 (wpV q z top low).2.1 := by
  unfold wpV at h ⊢
  by_cases c : gk q z ∧ gt top low
  · rw [if_pos c]
    obtain ⟨g, ht⟩ := c
    unfold gt at ht
    have hP := (e_placeAt' q z top low 1000000 1000 g (by omega) (by omega) (by omega) (by omega)).2
    have hd : low ≠ 0 := by omega
    have lb := low_bd (placeV q z top low) low 101000000 hd hP (by omega)
    have w1 := wplace q z top low g (by omega) (by omega)
    exact ⟨an_yl N _ _ lb.2.1 (by have := lb.1; simp only; omega) (low_gcd _ _ hd) (by have := lb.2; simp only; omega), by rw [w1, low_cross _ _ hd]; simp⟩
  · rw [if_neg c] at h; simp at h
theorem f11_all (N : Nat) (hN : 400000000 < N) (p s p' s' m n : Int) (h : (gaV p s p' s' m n).2.2 = true) : FEleven p s p' s' m n (gaV p s p' s' m n).1 (gaV p s p' s' m n).2.1 := by
  have hs := ga_sym p s p' s' m n
  have back : impl_GapAt.f N p' s' p s m n = some (gaV p s p' s' m n) := by rw [e_iGapAt N p' s' p s m n (by omega), hs]
  clear hs
  unfold gaV at h
  by_cases c : (gk p s ∧ gk p' s') ∧ gt m n
  · unfold gaV at back ⊢
    rw [if_pos c] at back ⊢
    obtain ⟨⟨g, g'⟩, ht⟩ := c
    unfold gt at ht
    have hP := (e_placeAt' p s m n 1000000 1000 g (by omega) (by omega) (by omega) (by omega)).2
    have hP' := (e_placeAt' p' s' m n 1000000 1000 g' (by omega) (by omega) (by omega) (by omega)).2
    have hd : n ≠ 0 := by omega
    have hG : 0 ≤ gapV p s p' s' m n ∧ gapV p s p' s' m n ≤ 202000000 := by unfold gapV; omega
    have lb := low_bd (gapV p s p' s' m n) n 202000000 hd (by omega) (by omega)
    have nn := lowN_neg (gapV p s p' s' m n) n hd
    rw [if_neg (show ¬ n < 0 by omega)] at nn
    have w1 := wsz p s p' s' m n g g' (by omega) (by omega)
    have x := low_cross (gapV p s p' s' m n) n hd
    refine ⟨an_yl N _ _ lb.2.1 (by have := lb.1; simp only; omega) (low_gcd _ _ hd) (by have := lb.2; simp only; omega), by simp only; omega, fun W => impl_GapAt.calls N p' s' p s m n _ _ true W back, _, w1, fun hz => ?_, fun hz => ?_⟩
    · have e : wrap64 (-(placeV p s m n - placeV p' s' m n)) = gapV p s p' s' m n := by rw [w64 _ (by omega) (by omega)]; unfold gapV; omega
      rw [e, x]; simp
    · have e : placeV p s m n - placeV p' s' m n = gapV p s p' s' m n := by unfold gapV; omega
      rw [e, x]; simp
  · rw [if_neg c] at h; simp at h
theorem am_rows (l : List S25) (hw : ws l) : (SymW.srtR (rowsM l)).length ≤ 100 ∧ (SymW.srtR (rowsM l)).Pairwise SymW.rl ∧ ∀ r ∈ SymW.srtR (rowsM l), r.length = 4 ∧ ∃ q j, q < j ∧ j < l.length ∧ (mtM l q j).2.2 = true ∧ r = rowK (mtM l) q j := by
  have h8 := hw.1.2
  obtain ⟨m1, m2, m3⟩ := rowsI_mem (mtM l) l.length l.length 0 (by omega)
  have g : ∀ r ∈ rowsM l, SymW.gdR r := fun r hr => by
    obtain ⟨q, j, _, j2, j3, j4, rfl⟩ := m1 r hr
    exact (am_gd l hw q j (by omega) j3 j4).1
  have p := SymW.srtR_spec (rowsM l) g m2
  have : l.length * (l.length - 1) ≤ 8 * 7 := Nat.mul_le_mul (by omega) (by omega)
  refine ⟨by rw [p.1.length_eq]; unfold rowsM; omega, p.2, fun r hr => ⟨(g r (p.1.mem_iff.1 hr)).1, ?_⟩⟩
  obtain ⟨q, j, _, j2, j3, j4, e⟩ := m1 r (p.1.mem_iff.1 hr)
  exact ⟨q, j, j2, j3, j4, e⟩
theorem row_of (r : List Int) : Row4 r (r.getD 0 0) (r.getD 1 0) (r.getD 2 0) (r.getD 3 0) := ⟨rfl, rfl, rfl, rfl⟩
theorem rl_ord (a b : List Int) (h : SymW.rl a b) : Ordd (a.getD 0 0) (a.getD 1 0) (a.getD 2 0) (a.getD 3 0) (b.getD 0 0) (b.getD 1 0) (b.getD 2 0) (b.getD 3 0) := by
  obtain ⟨ga, gb, h⟩ := h
  unfold SymW.gdR at ga gb
  unfold SymW.tq SymW.lx at h
  unfold Ordd
  generalize a.getD 0 0 = a0 at *
  generalize a.getD 1 0 = a1 at *
  generalize a.getD 2 0 = a2 at *
  generalize a.getD 3 0 = a3 at *
  generalize b.getD 0 0 = b0 at *
  generalize b.getD 1 0 = b1 at *
  generalize b.getD 2 0 = b2 at *
  generalize b.getD 3 0 = b3 at *
  have x := mul_bd a2 b3 100000 100000 (by omega) (by omega) (by omega) (by omega)
  have y := mul_bd b2 a3 100000 100000 (by omega) (by omega) (by omega) (by omega)
  rw [w64 (a2 * b3) (by omega) (by omega), w64 (b2 * a3) (by omega) (by omega)]
  omega
theorem rows_all (N : Nat) (hN : 400000000 < N) (l : List S25) (hw : ws l) (i : Nat) (hi : i < (SymW.srtR (rowsM l)).length) : RowF l (SymW.srtR (rowsM l)) i := by
  obtain ⟨h1, h2, h3⟩ := am_rows l hw
  have hm : (SymW.srtR (rowsM l)).getD i [] ∈ SymW.srtR (rowsM l) := by rw [List.getD_eq_getElem?_getD, List.getElem?_eq_getElem hi, Option.getD_some]; exact List.getElem_mem hi
  obtain ⟨h4, q, j, q1, q2, q3, e⟩ := h3 _ hm
  refine ⟨_, _, _, _, row_of _, ?_⟩
  have e0 : ((SymW.srtR (rowsM l)).getD i []).getD 0 0 = (q : Int) := by rw [e]; rfl
  have e1 : ((SymW.srtR (rowsM l)).getD i []).getD 1 0 = (j : Int) := by rw [e]; rfl
  have e2 : ((SymW.srtR (rowsM l)).getD i []).getD 2 0 = (mtM l q j).1 := by rw [e]; rfl
  have e3 : ((SymW.srtR (rowsM l)).getD i []).getD 3 0 = (mtM l q j).2.1 := by rw [e]; rfl
  refine ⟨by rw [e0]; omega, by rw [e0, e1]; omega, by rw [e1]; omega, ?_, fun h0 => ⟨_, _, _, _, row_of _, rl_ord _ _ (SymW.pw_get h2 (i - 1) i (by omega) hi)⟩⟩
  rw [e0, e1, e2, e3, show ((q : Nat) : Int).toNat = q by omega, show ((j : Nat) : Int).toNat = j by omega]
  have gq := am_z l hw q (by omega)
  have gj := am_z l hw j q2
  have em := (am_mt l hw q j (by omega) q2).2
  intro W
  refine impl_MeetingTime.calls N _ _ _ _ _ _ true W ?_
  rw [e_iMeetingTime N _ _ _ _ (by omega)]
  unfold mtV
  rw [if_pos ⟨gq, gj⟩, ← em, ← q3]
theorem word_no (x : S25) : (44 : UInt8) ∉ j2 x.f0 x.f1 [58] := by
  rw [j2_eq]
  intro h
  rcases List.mem_append.1 h with h | h
  · exact itoa_no x.f0 44 (by decide) (.inl (by decide)) h
  · rcases List.mem_append.1 h with h | h
    · simp at h
    · exact itoa_no x.f1 44 (by decide) (.inl (by decide)) h
theorem word_pw (x : S25) (g : gk x.f0 x.f1) : pwW (j2 x.f0 x.f1 [58]) = some x := by
  unfold gk at g
  have e : spl 58 (j2 x.f0 x.f1 [58]) = [Lib.itoa x.f0, Lib.itoa x.f1] := by
    unfold j2
    refine spl_of_join 58 _ (by simp) (fun p hp => ?_)
    simp only [List.mem_cons, List.not_mem_nil, or_false] at hp
    rcases hp with rfl | rfl
    · exact itoa_no x.f0 58 (by decide) (.inl (by decide))
    · exact itoa_no x.f1 58 (by decide) (.inl (by decide))
  rw [pwW_of ⟨by omega, by omega⟩ ⟨by omega, by omega⟩ e]
theorem words_pw : ∀ (l : List S25), (∀ x ∈ l, gk x.f0 x.f1) → pwF (l.map fun x => j2 x.f0 x.f1 [58]) = some l
  | [], _ => rfl
  | x :: r, h => by
    rw [List.map_cons, pwF, word_pw x (h x (by simp)), words_pw r (fun y hy => h y (by simp [hy]))]
    rfl
theorem text_pw (l : List S25) (hw : ws l) : pwRes (pwF (spl 44 (wText l))) = (l, true) := by
  have h8 := hw.1
  rw [wText_eq, spl_of_join 44 _ (by intro h; have := congrArg List.length h; simp at this; subst this; simp at h8) (fun p hp => by
    obtain ⟨x, _, rfl⟩ := List.mem_map.1 hp
    exact word_no x), words_pw l hw.2]
  unfold pwRes
  simp only
  rw [e_AreWalkers l (by omega), if_pos (by rw [decide_eq_true hw])]
theorem pw_text (s : ByteArray) (l : List S25) (h : pwRes (pwF (spl 44 s.data.toList)) = (l, true)) : ws l ∧ bs (wText l) = s := by
  unfold pwRes at h
  cases hp : pwF (spl 44 s.data.toList) with
  | none => rw [hp] at h; simp at h
  | some m =>
    rw [hp] at h
    simp only at h
    by_cases c : impl_AreWalkers.f m = some true
    · rw [if_pos c] at h
      simp only [Prod.mk.injEq, and_true] at h
      subst h
      have hml : (m.length : Int) ≤ 9000000000000000000 := by
        unfold impl_AreWalkers.f at c
        by_cases z : (m.length : Int) ≤ 9000000000000000000
        · exact z
        · rw [if_neg z] at c; simp at c
      rw [e_AreWalkers m hml] at c
      have hw := of_decide_eq_true (Option.some.inj c)
      refine ⟨hw, ?_⟩
      have e := pwF_words hp
      rw [wText_eq, ← e, spl_join]
      exact bs_of s
    · rw [if_neg c] at h; simp at h
theorem ws_ok (l : List S25) (h : ws l) : 1 ≤ l.length ∧ l.length ≤ 8 ∧ ∀ x ∈ l, wOk x := by
  obtain ⟨h1, h2⟩ := h
  refine ⟨by omega, by omega, fun x hx => ?_⟩
  have := h2 x hx
  unfold gk at this
  unfold wOk
  omega
theorem wt_all (m : List S25) (hm : m.length ≤ 1048576) (K : Nat) (hK : 2000000 < K) : ∃ txt : ByteArray, (ws m → txt = bs (wText m)) ∧ spec_WalkersText.f K m = some (txt, decide (ws m)) ∧ AnT 18 m (.tuple #[.string txt, .bool (decide (ws m))]) := by
  have ha := e_AreWalkers m (by omega)
  by_cases c : ws m
  · obtain ⟨h1, h8, hx⟩ := ws_ok m c
    refine ⟨bs (wText m), fun _ => rfl, ?_, fun W A cc hT hC hc => by rw [decide_eq_true c]; exact wtext.yes A cc m W hC hc h1 h8 hx (by rw [ha, decide_eq_true c]) hT⟩
    unfold spec_WalkersText.f
    rw [e_meAll K m (by omega) (by omega), e_meText K m h8 hx (by omega)]
    simp [c]
  · refine ⟨⟨#[]⟩, fun h => absurd h c, ?_, fun W A cc hT hC hc => by rw [decide_eq_false c]; exact wtext.no A cc m W hC hc (by rw [ha, decide_eq_false c])⟩
    unfold spec_WalkersText.f
    rw [e_meAll K m (by omega) (by omega)]
    simp [c]
theorem allm (l : List S25) (hl : (l.length : Int) ≤ 1048576) : ∃ rs : List (List Int), (ws l → rs = SymW.srtR (rowsM l)) ∧ rs.length ≤ 100 ∧ (∀ r ∈ rs, r.length = 4) ∧ impl_AllMeetings.f l = some (rs, decide (ws l)) ∧ impl_CountMeetings.f l = some ((rs.length : Int), decide (ws l)) ∧
    ∃ K, ∀ k, K ≤ k → spec_AllMeetings.f k l = some (rs, decide (ws l)) ∧ spec_CountMeetings.f k l = some ((rs.length : Int), decide (ws l)) := by
  obtain ⟨K, hK⟩ := am_spec l hl
  by_cases hw : ws l
  · have am := am_rows l hw
    refine ⟨SymW.srtR (rowsM l), fun _ => rfl, am.1, fun r hr => (am.2.2 r hr).1, ?_, ?_, K, fun k hk => ⟨?_, ?_⟩⟩
    · unfold impl_AllMeetings.f
      rw [e_AreWalkers l (by omega), am_impl l hw]
      simp [hw]
    · unfold impl_CountMeetings.f
      rw [e_AreWalkers l (by omega), am_impl l hw]
      simp [hw]
    · rw [hK k hk, if_pos hw, decide_eq_true hw]
    · unfold spec_CountMeetings.f
      rw [hK k hk, if_pos hw, decide_eq_true hw]; rfl
  · refine ⟨[], fun h => absurd h hw, by simp, by simp, ?_, ?_, K, fun k hk => ⟨?_, ?_⟩⟩
    · unfold impl_AllMeetings.f
      rw [e_AreWalkers l (by omega)]
      simp [hw]
    · unfold impl_CountMeetings.f
      rw [e_AreWalkers l (by omega)]
      simp [hw]
    · rw [hK k hk, if_neg hw, decide_eq_false hw]
    · unfold spec_CountMeetings.f
      rw [hK k hk, if_neg hw, decide_eq_false hw]; rfl
theorem toB {g : Nat} {args : Array Value} {W : World} {v : Value} (h : Calls Tryz.prog g args W fun e w' => e = .returned v ∧ Drawn0 W w') : Calls Tryz.prog g args W fun e w' => e = .returned v ∧ Below W.heap.size W w' := h.mono fun _ _ h => ⟨h.1, h.2.below⟩
theorem pw_len (s : ByteArray) (hs : s.size ≤ 2000000) : (pwRes (pwF (spl 44 s.data.toList))).1.length ≤ 3000000 := by
  have hlF := spl_length_le 44 s.data.toList []
  rw [show spla 44 [] s.data.toList = spl 44 s.data.toList from rfl] at hlF
  have hsz : s.data.toList.length = s.size := (Lib.size_eq s).symm
  unfold pwRes
  cases hp : pwF (spl 44 s.data.toList) with
  | none => simp
  | some l =>
    have := pwF_len hp
    simp only
    split
    · simp only; omega
    · simp
theorem three_all (N : Nat) (hN : 400000000 < N) (l : List S25) (rs : List (List Int)) (txt : ByteArray) (h1 : ws l → rs = SymW.srtR (rowsM l)) (h2 : ws l → txt = bs (wText l)) (hw : ws l) : FThree N l rs (rs.length : Int) txt := by
  have e1 := h1 hw
  have e2 := h2 hw
  subst e1 e2
  have h8 := hw.1
  refine ⟨by have := (am_rows l hw).1; omega, rfl, rows_all N hN l hw, fun W hT => ?_, e_yWalkers N l (by omega) (by omega)⟩
  have hl := wText_len l (ws_ok l hw).2.2
  have := pw.calls (bs (wText l)) (by rw [bs_size]; omega) W hT
  rw [bs_data, text_pw l hw] at this
  exact this
theorem thirteen_all (s : ByteArray) (l : List S25) (h : pwRes (pwF (spl 44 s.data.toList)) = (l, true)) : AnT 18 l (.tuple #[.string s, .bool true]) := by
  obtain ⟨hw, e⟩ := pw_text s l h
  subst e
  obtain ⟨h1, h8, hx⟩ := ws_ok l hw
  exact fun W A cc hT hC hc => wtext.yes A cc l W hC hc h1 h8 hx (by rw [e_AreWalkers l (by omega), decide_eq_true hw]) hT
theorem m_all (N : Nat) (hN : 900000000 < N) (a0_0 a0_1 a1_0 a1_1 : Int) : MOwes a0_0 a0_1 a1_0 a1_1 := by
  have f1 := f1_all N (by omega) a0_0 a0_1 a1_0 a1_1
  have f2 := f2_all a0_0 a0_1 a1_0 a1_1
  have m1 := e_iMeetingTime N a0_0 a0_1 a1_0 a1_1 (by omega)
  have m2 := e_sMeetingTime N a0_0 a0_1 a1_0 a1_1 (by omega)
  have m3 := e_iMeetingPlace N a0_0 a0_1 a1_0 a1_1 (by omega)
  have m4 := e_sMeetingPlace N a0_0 a0_1 a1_0 a1_1 (by omega)
  have m5 := mp_third a0_0 a0_1 a1_0 a1_1
  generalize mtV a0_0 a0_1 a1_0 a1_1 = MT at *
  obtain ⟨num, den, ok⟩ := MT
  generalize mpV a0_0 a0_1 a1_0 a1_1 = MP at *
  obtain ⟨place, part, one⟩ := MP
  simp only at m5 f1 f2
  subst m5
  exact ⟨num, den, place, part, _, decide (gk a0_0 a0_1), decide (gk a1_0 a1_1),
    (fun W => by first | exact impl_MeetingTime.calls N _ _ _ _ _ _ _ W m1 | exact toB (impl_MeetingTime.calls N _ _ _ _ _ _ _ W m1)),
    (fun W => by first | exact spec_MeetingTime.calls N _ _ _ _ _ _ _ W m2 | exact toB (spec_MeetingTime.calls N _ _ _ _ _ _ _ W m2)),
    (fun W => by first | exact impl_MeetingPlace.calls N _ _ _ _ _ _ _ W m3 | exact toB (impl_MeetingPlace.calls N _ _ _ _ _ _ _ W m3)),
    (fun W => by first | exact spec_MeetingPlace.calls N _ _ _ _ _ _ _ W m4 | exact toB (spec_MeetingPlace.calls N _ _ _ _ _ _ _ W m4)),
    (fun W => by first | exact impl_IsWalker.calls _ _ _ W (e_iIsWalker _ _) | exact toB (impl_IsWalker.calls _ _ _ W (e_iIsWalker _ _))),
    (fun W => by first | exact spec_IsWalker.calls _ _ _ W (e_sIsWalker _ _) | exact toB (spec_IsWalker.calls _ _ _ W (e_sIsWalker _ _))),
    (fun W => by first | exact impl_IsWalker.calls _ _ _ W (e_iIsWalker _ _) | exact toB (impl_IsWalker.calls _ _ _ W (e_iIsWalker _ _))),
    f1, f2⟩
theorem l_all (l : List S25) (hl : l.length ≤ 200) : LOwes l := by
  obtain ⟨rs, r1, r2, r3, r4, r5, K, r6⟩ := allm l (by omega)
  obtain ⟨N, hN1, hN2⟩ : ∃ N, K ≤ N ∧ 999999997 ≤ N := ⟨max K 999999997, by omega, by omega⟩
  obtain ⟨r6, r7⟩ := r6 N hN1
  obtain ⟨txt, t1, t2, t3⟩ := wt_all l (by omega) N (by omega)
  have ea := e_AreWalkers l (by omega)
  have es := e_sAreWalkers N l (by omega) (by omega)
  have f3 := three_all N (by omega) l rs txt r1 t1
  exact ⟨N, rs, decide (ws l), (rs.length : Int), txt, r4, r6, e_yRows N rs r3 (by omega) (by omega),
    (fun W Q c hC hc => by first | exact impl_CountMeetings.calls Q c l _ _ W hC hc r5 | exact toB (impl_CountMeetings.calls Q c l _ _ W hC hc r5)),
    (fun W Q c hC hc => by first | exact spec_CountMeetings.calls N Q c l _ _ W hC hc r7 | exact toB (spec_CountMeetings.calls N Q c l _ _ W hC hc r7)),
    t3,
    (fun W Q c hC hc => by first | exact spec_WalkersText.calls N Q c l _ _ W hC hc t2 | exact toB (spec_WalkersText.calls N Q c l _ _ W hC hc t2)),
    (fun W Q c hC hc => by first | exact impl_AreWalkers.calls Q c l _ W hC hc ea | exact toB (impl_AreWalkers.calls Q c l _ W hC hc ea)),
    (fun W Q c hC hc => by first | exact spec_AreWalkers.calls N Q c l _ W hC hc es | exact toB (spec_AreWalkers.calls N Q c l _ W hC hc es)),
    fun h => f3 (of_decide_eq_true h)⟩
theorem w_all (N : Nat) (hN : 900000000 < N) (a3_0 a3_1 a4 a5 : Int) : WOwes a3_0 a3_1 a4 a5 := by
  have f9 := f9_all N (by omega) a3_0 a3_1 a4 a5
  have m6 := e_iWalkerPlace N a3_0 a3_1 a4 a5 (by omega)
  have m7 := e_sWalkerPlace N a3_0 a3_1 a4 a5 (by omega)
  generalize wpV a3_0 a3_1 a4 a5 = WP at *
  obtain ⟨at', of', nine⟩ := WP
  simp only at f9
  exact ⟨at', of', nine, (fun W => by first | exact impl_WalkerPlace.calls N _ _ _ _ _ _ _ W m6 | exact toB (impl_WalkerPlace.calls N _ _ _ _ _ _ _ W m6)),
    (fun W => by first | exact spec_WalkerPlace.calls N _ _ _ _ _ _ _ W m7 | exact toB (spec_WalkerPlace.calls N _ _ _ _ _ _ _ W m7)), f9⟩
theorem g_all (N : Nat) (hN : 900000000 < N) (a6_0 a6_1 a7_0 a7_1 a8 a9 : Int) : GOwes a6_0 a6_1 a7_0 a7_1 a8 a9 := by
  have f11 := f11_all N (by omega) a6_0 a6_1 a7_0 a7_1 a8 a9
  have m8 := e_iGapAt N a6_0 a6_1 a7_0 a7_1 a8 a9 (by omega)
  have m9 := e_sGapAt N a6_0 a6_1 a7_0 a7_1 a8 a9 (by omega)
  generalize gaV a6_0 a6_1 a7_0 a7_1 a8 a9 = GA at *
  obtain ⟨gap, wide, eleven⟩ := GA
  simp only at f11
  exact ⟨gap, wide, eleven, (fun W => by first | exact impl_GapAt.calls N _ _ _ _ _ _ _ _ _ W m8 | exact toB (impl_GapAt.calls N _ _ _ _ _ _ _ _ _ W m8)),
    (fun W => by first | exact spec_GapAt.calls N _ _ _ _ _ _ _ _ _ W m9 | exact toB (spec_GapAt.calls N _ _ _ _ _ _ _ _ _ W m9)), f11⟩
theorem p_all (N : Nat) (hN : 900000000 < N) (a10 : ByteArray) (hw : a10.size ≤ 1000) : POwes a10 := by
  have hS := e_ParseWalkers N a10 (by omega) (by omega)
  have hI := fun (W' : World) (hT : T2 W') => pw.calls a10 (by omega) W' hT
  have hL := pw_len a10 (by omega)
  have h13 := thirteen_all a10
  generalize pwRes (pwF (spl 44 a10.data.toList)) = PR at *
  obtain ⟨lp, thirteen⟩ := PR
  simp only at hI hL
  exact ⟨N, lp, thirteen, hI, hS, e_yWalkers N lp (by omega) (by omega), fun h => h13 lp (by rw [h])⟩
theorem two_text (u d u' d' : Int) (h1 : -8 ≤ u ∧ u ≤ 16) (h2 : -5 ≤ d ∧ d ≤ 5) (h3 : -8 ≤ u' ∧ u' ≤ 16) (h4 : -5 ≤ d' ∧ d' ≤ 5) : ∃ s, spec_meText.f 200 [⟨u, d⟩, ⟨u', d'⟩] = some s ∧ s.size ≤ 900 := by
  have hx : ∀ x ∈ [(⟨u, d⟩ : S25), ⟨u', d'⟩], wOk x := fun x hx => by
    simp only [List.mem_cons, List.not_mem_nil, or_false] at hx
    rcases hx with rfl | rfl <;> (unfold wOk; simp only; omega)
  refine ⟨_, e_meText 200 _ (by simp) hx (by omega), ?_⟩
  have hl := wText_len [(⟨u, d⟩ : S25), ⟨u', d'⟩] hx
  rw [bs_size]
  simp only [List.length_cons, List.length_nil] at hl
  omega
theorem bigF (Ac Am : Option Addr) (cc cm : Nat) (lc lm : List Int) (h : (lc.length : Int) + (lm.length : Int) ≤ 1048576) (W : World) (hr1 : Kd.C (Kd.int .u8) W Ac lc.length lc) (hc1 : lc.length ≤ cc) (hr2 : Kd.C (Kd.int .u8) W Am lm.length lm) (hc2 : lm.length ≤ cm) : Calls Tryz.prog 4 #[.slice Ac lc.length cc, .slice Am lm.length cm] W fun e w' => e = .returned (.bool false) ∧ Below W.heap.size W w' := by
  have e : laws_big.f lc lm = some false := by
    unfold laws_big.f
    rw [w64 _ (by omega) (by omega)]
    first | (rw [if_neg (by omega)]; simp; omega) | (simp; omega)
  exact (laws_big.calls Ac cc lc Am cm lm false W hr1 hc1 hr2 hc2 e).mono (fun e w' h => ⟨h.1, h.2.below⟩)
theorem bigT (Ac Am : Option Addr) (cc cm : Nat) (lc lm : List Int) (h : ¬ (lc.length : Int) + (lm.length : Int) ≤ 1048576) (hm1 : lc.length ≤ 1000000000000000) (hm2 : lm.length ≤ 1000000000000000) (W : World) (hr1 : Kd.C (Kd.int .u8) W Ac lc.length lc) (hc1 : lc.length ≤ cc) (hr2 : Kd.C (Kd.int .u8) W Am lm.length lm) (hc2 : lm.length ≤ cm) : Calls Tryz.prog 4 #[.slice Ac lc.length cc, .slice Am lm.length cm] W fun e w' => e = .returned (.bool true) ∧ Below W.heap.size W w' := by
  have e : laws_big.f lc lm = some true := by
    unfold laws_big.f
    by_cases c : (lc.length : Int) > 1048576
    · rw [if_pos c]
    · rw [if_neg c, w64 _ (by omega) (by omega)]; simp; omega
  exact (laws_big.calls Ac cc lc Am cm lm true W hr1 hc1 hr2 hc2 e).mono (fun e w' h => ⟨h.1, h.2.below⟩)
set_option maxHeartbeats 2000000 in
set_option maxRecDepth 100000 in
theorem law_bigT (Ac Am : Option Addr) (cc cm : Nat) (lc lm : List Int) (w0 : World) (hb : Calls Tryz.prog 4 #[.slice Ac lc.length cc, .slice Am lm.length cm] w0 fun e w' => e = .returned (.bool true) ∧ Below w0.heap.size w0 w') :
    Calls Tryz.prog 3 #[.slice Ac lc.length cc, .slice Am lm.length cm] w0 fun e w' => e = .returned (.bool true) ∧ Below w0.heap.size w0 w' := by
  have HB := jb.mk hb
  clear hb
  go_enter Tryz.func3, Tryz.ntmps3
  go_wp2_with (go_at_call 4; (with_reducible refine HB.out.mono ?_); rintro e w1 ⟨rfl, h1⟩; have H1 := jb.mk h1; clear h1)
  go_ret
  exact ⟨rfl, H1.out⟩
theorem code8 (l : List Int) (hw : ∀ x ∈ l, (Lit.int .u8 x).wf = true) (hl : (l.length : Int) ≤ 1048576) : DrawP.Code8 l := ⟨fun x hx => by
  have := hw x hx
  simp [Lit.wf] at this
  have e1 : IntKind.u8.min = 0 := by decide
  have e2 : IntKind.u8.max = 255 := by decide
  rw [e1, e2] at this
  simpa using this, by omega⟩
theorem FnWalkersMeet_all (Ac : Option Addr) (cc : Nat) (lc : List Int) (Am : Option Addr) (cm : Nat) (lm : List Int) (w0 : World) (hr1 : Kd.C (Kd.int .u8) w0 Ac lc.length lc) (hc1 : lc.length ≤ cc) (hr2 : Kd.C (Kd.int .u8) w0 Am lm.length lm) (hc2 : lm.length ≤ cm)
    (hm1 : lc.length ≤ maxLen) (hy1 : lc.length * 1 ≤ 140737488351232) (hw1 : ∀ x ∈ lc, (Lit.int .u8 x).wf = true) (hm2 : lm.length ≤ maxLen) (hy2 : lm.length * 1 ≤ 140737488351232) (hw2 : ∀ x ∈ lm, (Lit.int .u8 x).wf = true) (ht : T2 w0) :
    Calls Tryz.prog 3 #[.slice Ac lc.length cc, .slice Am lm.length cm] w0 fun e w' => e = .returned (.bool true) ∧ Below w0.heap.size w0 w' := by
  by_cases h : (lc.length : Int) + (lm.length : Int) ≤ 1048576
  · obtain ⟨N, hN⟩ : ∃ N, 999999997 ≤ N := ⟨999999997, by omega⟩
    exact meetA Ac Am cc cm lc lm w0 (fun W hW => bigF Ac Am cc cm lc lm h W (Kd.C_below hr1 hW) hc1 (Kd.C_below hr2 hW) hc2)
      (fun W hW => DrawP.drawMT Ac cc lc (code8 lc hw1 (by omega)) W (Kd.C_below hr1 hW)) (fun W hW => DrawP.drawAM Am cm lm (code8 lm hw2 (by omega)) W (Kd.C_below hr2 hW))
      (fun W hW => DrawP.drawWP Am cm lm (code8 lm hw2 (by omega)) W (Kd.C_below hr2 hW)) (fun W hW => DrawP.drawGA Am cm lm (code8 lm hw2 (by omega)) W (Kd.C_below hr2 hW))
      (fun W hW => DrawP.drawPW two_text Am cm lm (code8 lm hw2 (by omega)) W (Kd.C_below hr2 hW))
      (m_all N (by omega)) l_all (w_all N (by omega)) (g_all N (by omega)) (p_all N (by omega)) ht
  · exact law_bigT Ac Am cc cm lc lm w0 (bigT Ac Am cc cm lc lm h (by omega) (by omega) w0 hr1 hc1 hr2 hc2)


end Go.Proofs.YtoideilmkcpilaaGreatDoor.Pure
