/- The pure statement of the law FnExactSlowestUp: what the program's function computes is what the reference's computes. -/
import Derived.Test.YtndhihjgdjnkaaaPFnExactSlowestUpx1
namespace Go.Proofs.Ytndhihjgdjnkaaa.Pure
open Go.RowKit Go.Proofs.Ytndhihjgdjnkaaa.PFnExactSlowestUp Go.Proofs.YtndhihjgdjnkaaaW.PrintWords Go.Proofs.YtndhihjgdjnkaaaW.PrintLast Go.Proofs.YtndhihjgdjnkaaaW.PrintMore
set_option linter.unusedVariables false
set_option linter.unusedSimpArgs false
theorem w64 (n : Int) (h1 : -9223372036854775808 ≤ n) (h2 : n ≤ 9223372036854775807) : wrap64 n = n := by unfold wrap64; omega
theorem dec_and (p q : Prop) [Decidable p] [Decidable q] [Decidable (p ∧ q)] : (if p then some (decide q) else some false) = some (decide (p ∧ q)) := by
  by_cases h : p <;> by_cases h' : q <;> simp [h, h']
theorem le_cases (a b c : Int) : (if a ≥ b then some (decide (a ≤ c)) else some false) = some (decide (b ≤ a ∧ a ≤ c)) := by
  by_cases h : b ≤ a <;> by_cases h' : a ≤ c <;> simp [h, h']
def gd (u d : Int) : Prop := 1 ≤ u ∧ u ≤ 1000 ∧ 0 ≤ d ∧ d ≤ 1000
instance (u d : Int) : Decidable (gd u d) := by unfold gd; infer_instance
def gw (w : Int) : Prop := 1 ≤ w ∧ w ≤ 1000000
instance (w : Int) : Decidable (gw w) := by unfold gw; infer_instance
def reach (u d day : Int) : Int := if u ≤ d then u else u + (day - 1) * (u - d)
def dayH (u d h : Int) : Int := if h ≤ u then 1 else if u ≤ d then 0 else 1 + (h - u + (u - d) - 1) / (u - d)
theorem mul_bd (a b A B : Int) (h1 : 0 ≤ a) (h2 : a ≤ A) (h3 : 0 ≤ b) (h4 : b ≤ B) : 0 ≤ a * b ∧ a * b ≤ A * B :=
  ⟨Int.mul_nonneg h1 h3, Int.mul_le_mul h2 h4 h3 (by omega)⟩
theorem reach_bd (u d day : Int) (g : gd u d) (w : gw day) : u ≤ reach u d day ∧ reach u d day ≤ 1000000000 := by
  unfold gd at g; unfold gw at w; unfold reach
  split
  · omega
  · have := mul_bd (day - 1) (u - d) 999999 1000 (by omega) (by omega) (by omega) (by omega)
    omega
theorem div_bd (x g : Int) (hg : 1 ≤ g) (hx : 0 ≤ x) : 0 ≤ x / g ∧ x / g ≤ x :=
  ⟨Int.ediv_nonneg hx (by omega), Int.ediv_le_self _ hx⟩
theorem dayH_bd (u d h : Int) (g : gd u d) (hh : h ≤ 1000000) : 0 ≤ dayH u d h ∧ dayH u d h ≤ 1001000 := by
  unfold gd at g; unfold dayH
  split
  · omega
  · split
    · omega
    · have := div_bd (h - u + (u - d) - 1) (u - d) (by omega) (by omega)
      omega
theorem ceil_le (x g n : Int) (hg : 1 ≤ g) : (x + g - 1) / g ≤ n ↔ x ≤ n * g := by
  have h : (x + g - 1) / g < n + 1 ↔ x + g - 1 < (n + 1) * g := Int.ediv_lt_iff_lt_mul (by omega)
  have e : (n + 1) * g = n * g + g := by rw [Int.add_mul, Int.one_mul]
  rw [e] at h
  constructor
  · intro k; have := h.mp (by omega); omega
  · intro k; have := h.mpr (by omega); omega
/-- The day is reached at the end of a day just if that day is not before it. -/
theorem dayH_le (u d h day : Int) (hd : 1 ≤ day) : (0 < dayH u d h ∧ dayH u d h ≤ day) ↔ h ≤ reach u d day := by
  unfold dayH reach
  by_cases h1 : h ≤ u
  · rw [if_pos h1]
    split
    · omega
    · have := Int.mul_nonneg (show 0 ≤ day - 1 by omega) (show 0 ≤ u - d by omega)
      omega
  · rw [if_neg h1]
    by_cases h2 : u ≤ d
    · rw [if_pos h2, if_pos h2]; omega
    · rw [if_neg h2, if_neg h2]
      have a := Int.ediv_nonneg (show 0 ≤ h - u + (u - d) - 1 by omega) (show 0 ≤ u - d by omega)
      have c := ceil_le (h - u) (u - d) (day - 1) (by omega)
      constructor
      · rintro ⟨_, k⟩; have := c.mp (by omega); omega
      · intro k; have := c.mpr (by omega); omega
theorem e_within (a b c : Int) : impl_within.f a b c = some (decide (b ≤ a ∧ a ≤ c)) := by
  unfold impl_within.f; exact le_cases a b c
theorem e_l1In (a b c : Int) : spec_l1In.f a b c = some (decide (b ≤ a ∧ a ≤ c)) := by
  unfold spec_l1In.f; exact le_cases a b c
theorem e_isWall (a : Int) : impl_isWall.f a = some (decide (gw a)) := by
  unfold impl_isWall.f; simp only [e_within, Option.bind_some]; rfl
theorem e_snWall (a : Int) : spec_snWall.f a = some (decide (gw a)) := by
  unfold spec_snWall.f; simp only [e_l1In, Option.bind_some]; rfl
theorem e_snDay (a : Int) : spec_snDay.f a = some (decide (gw a)) := by
  unfold spec_snDay.f; simp only [e_l1In, Option.bind_some]; rfl
theorem e_snEvening (u d day : Int) (g : gd u d) (w : gw day) : spec_snEvening.f u d day = some (reach u d day) := by
  have b := reach_bd u d day g w
  unfold gd at g; unfold gw at w; unfold spec_snEvening.f; unfold reach at b ⊢
  by_cases h : u ≤ d
  · rw [if_pos h, if_pos h]
  · rw [if_neg h] at b
    rw [if_neg h, if_neg h]
    have m := mul_bd (day - 1) (u - d) 999999 1000 (by omega) (by omega) (by omega) (by omega)
    rw [w64 (u - d) (by omega) (by omega), w64 (day - 1) (by omega) (by omega), w64 ((day - 1) * (u - d)) (by omega) (by omega), w64 _ (by omega) (by omega)]
theorem e_dayOfHeight (u d h : Int) (g : gd u d) (h2 : h ≤ 1000000) : impl_dayOfHeight.f u d h = some (dayH u d h) := by
  unfold gd at g; unfold impl_dayOfHeight.f dayH
  by_cases c1 : h ≤ u
  · rw [if_pos c1, if_pos c1]
  · rw [if_neg c1, if_neg c1]
    by_cases c2 : u ≤ d
    · rw [if_pos c2, if_pos c2]
    · rw [if_neg c2, if_neg c2, w64 (u - d) (by omega) (by omega), if_neg (by omega), w64 (h - u) (by omega) (by omega), w64 (h - u + (u - d)) (by omega) (by omega), w64 (h - u + (u - d) - 1) (by omega) (by omega), Int.tdiv_eq_ediv_of_nonneg (by omega)]
      have b := div_bd (h - u + (u - d) - 1) (u - d) (by omega) (by omega)
      rw [w64 ((h - u + (u - d) - 1) / (u - d)) (by omega) (by omega), w64 _ (by omega) (by omega)]
def upL (P : Int → Bool) : Nat → Int → Int × Bool
  | 0, _ => (0, false)
  | n + 1, up => if P up = true then (up, true) else upL P n (up + 1)
def slowP (w days d up : Int) : Bool := decide (w ≤ reach up d days)
def slowV (w days d : Int) : Int × Bool := if (gw w ∧ gw days) ∧ 0 ≤ d ∧ d ≤ 1000 then upL (slowP w days d) 1000 1 else (0, false)
theorem e_sSlow_l0 (w days d : Int) (hw : gw w) (hd : gw days) (h0 : 0 ≤ d) (h1 : d ≤ 1000) : ∀ (n : Nat) (up : Int) (k : Nat), up + n = 1001 → 1 ≤ up → n < k → spec_SlowestUp.l0 k w days d up = some (upL (slowP w days d) n up) := by
  intro n
  induction n with
  | zero =>
    intro up k hu hp hk
    obtain ⟨k, rfl⟩ : ∃ m, k = m + 1 := ⟨k - 1, by omega⟩
    simp only [spec_SlowestUp.l0, upL]; rw [if_neg (by omega)]
  | succ n ih =>
    intro up k hu hp hk
    obtain ⟨k, rfl⟩ : ∃ m, k = m + 1 := ⟨k - 1, by omega⟩
    simp only [spec_SlowestUp.l0, upL]
    rw [if_pos (by omega), e_snEvening up d days (by unfold gd; omega) hd]
    simp only [Option.bind_some, slowP, decide_eq_true_eq]
    by_cases c : w ≤ reach up d days
    · rw [if_pos c, if_pos c]
    · rw [if_neg c, if_neg c, w64 _ (by omega) (by omega)]
      exact ih (up + 1) k (by omega) (by omega) (by omega)
theorem e_sSlowestUp (k : Nat) (w days d : Int) (hk : 1002 < k) : spec_SlowestUp.f k w days d = some (slowV w days d) := by
  obtain ⟨k, rfl⟩ : ∃ m, k = m + 1 := ⟨k - 1, by omega⟩
  unfold spec_SlowestUp.f slowV; rw [e_snWall, e_snDay, e_l1In]; simp only [Option.bind_some, decide_eq_true_eq, spec_SlowestUp.j0]
  by_cases h : gw w
  · by_cases h2 : gw days
    · by_cases h3 : 0 ≤ d ∧ d ≤ 1000
      · rw [if_pos h, if_pos h2, if_pos (show (gw w ∧ gw days) ∧ 0 ≤ d ∧ d ≤ 1000 from ⟨⟨h, h2⟩, h3⟩), ← e_sSlow_l0 w days d h h2 h3.1 h3.2 1000 1 k (by omega) (by omega) (by omega)]; simp [h3]
      · rw [if_pos h, if_pos h2, if_neg (show ¬ ((gw w ∧ gw days) ∧ 0 ≤ d ∧ d ≤ 1000) from fun z => h3 z.2)]; simp [h3]
    · rw [if_pos h, if_neg h2, if_neg (show ¬ ((gw w ∧ gw days) ∧ 0 ≤ d ∧ d ≤ 1000) from fun z => h2 z.1.2)]; simp
  · rw [if_neg h, if_neg (show ¬ ((gw w ∧ gw days) ∧ 0 ≤ d ∧ d ≤ 1000) from fun z => h z.1.1)]; simp
theorem e_iSlow_l0 (w days d : Int) (hw : gw w) (hd : gw days) (h0 : 0 ≤ d) (h1 : d ≤ 1000) : ∀ (n : Nat) (up : Int) (k : Nat), up + n = 1001 → 1 ≤ up → n < k → impl_SlowestUp.l0 k w days d up = some (upL (slowP w days d) n up) := by
  intro n
  induction n with
  | zero =>
    intro up k hu hp hk
    obtain ⟨k, rfl⟩ : ∃ m, k = m + 1 := ⟨k - 1, by omega⟩
    simp only [impl_SlowestUp.l0, upL]; rw [if_neg (by omega)]
  | succ n ih =>
    intro up k hu hp hk
    obtain ⟨k, rfl⟩ : ∃ m, k = m + 1 := ⟨k - 1, by omega⟩
    simp only [impl_SlowestUp.l0, upL]
    have hw' := hw; have hd' := hd; unfold gw at hw' hd'
    have q := dayH_le up d w days (by omega)
    rw [if_pos (by omega), e_dayOfHeight up d w (by unfold gd; omega) (by omega)]
    simp only [Option.bind_some, slowP, decide_eq_true_eq]
    rw [w64 (up + 1) (by omega) (by omega), ih (up + 1) k (by omega) (by omega) (by omega)]
    by_cases c : w ≤ reach up d days
    · have z := q.mpr c
      rw [if_pos c, if_pos z.1, if_pos z.2]
    · rw [if_neg c]
      by_cases z : dayH up d w > 0
      · rw [if_pos z, if_neg (fun z2 => c (q.mp ⟨z, z2⟩))]
      · rw [if_neg z]
theorem e_iSlowestUp (k : Nat) (w days d : Int) (hk : 1002 < k) : impl_SlowestUp.f k w days d = some (slowV w days d) := by
  obtain ⟨k, rfl⟩ : ∃ m, k = m + 1 := ⟨k - 1, by omega⟩
  unfold impl_SlowestUp.f slowV; rw [e_isWall, e_isWall, e_within]; simp only [Option.bind_some, decide_eq_true_eq, impl_SlowestUp.j0]
  by_cases h : gw w
  · by_cases h2 : gw days
    · by_cases h3 : 0 ≤ d ∧ d ≤ 1000
      · rw [if_pos h, if_pos h2, if_pos (show (gw w ∧ gw days) ∧ 0 ≤ d ∧ d ≤ 1000 from ⟨⟨h, h2⟩, h3⟩), ← e_iSlow_l0 w days d h h2 h3.1 h3.2 1000 1 k (by omega) (by omega) (by omega)]; simp [h3]
      · rw [if_pos h, if_pos h2, if_neg (show ¬ ((gw w ∧ gw days) ∧ 0 ≤ d ∧ d ≤ 1000) from fun z => h3 z.2)]; simp [h3]
    · rw [if_pos h, if_neg h2, if_neg (show ¬ ((gw w ∧ gw days) ∧ 0 ≤ d ∧ d ≤ 1000) from fun z => h2 z.1.2)]; simp
  · rw [if_neg h, if_neg (show ¬ ((gw w ∧ gw days) ∧ 0 ≤ d ∧ d ≤ 1000) from fun z => h z.1.1)]; simp
theorem FnExactSlowestUp : laws_FnExactSlowestUp.Pure := by
  unfold laws_FnExactSlowestUp.Pure
  intros
  refine ⟨2000, ?_⟩
  unfold laws_FnExactSlowestUp.f
  simp [e_sSlowestUp, e_iSlowestUp]

end Go.Proofs.Ytndhihjgdjnkaaa.Pure
