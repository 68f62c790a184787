/- Plain facts on snails: the lead changes once at most; evenings with slips. -/
import Derived.Test.YtbbglmoenjdloaaPureFnSnailsRace
namespace Go.Proofs.Ytbbglmoenjdloaa.Pure
open Go.RowKit Go.Proofs.Ytbbglmoenjdloaa.OFnSnailsRace Go.Proofs.YtbbglmoenjdloaaW.PrintWords Go.Proofs.YtbbglmoenjdloaaW.PrintLast Go.Proofs.YtbbglmoenjdloaaW.PrintMore
set_option linter.unusedVariables false
set_option linter.unusedSimpArgs false
/-! ### the lead changes once at most -/
theorem lcL_once (f : Int → Int) (σ : Int) (hσ : σ = 1 ∨ σ = -1) (hf : ∀ x, -1 ≤ f x ∧ f x ≤ 1) (mono : ∀ a b, 1 ≤ a → a < b → f a = σ → f b ≠ -σ) :
    ∀ (n : Nat) (day b c : Int), 1 ≤ day → ((b = 0 ∧ c = 0) ∨ (b = -σ ∧ c = 0) ∨ (b = σ ∧ 0 ≤ c ∧ c ≤ 1 ∧ ∃ a, 1 ≤ a ∧ a < day ∧ f a = σ)) → 0 ≤ lcL f n day b c ∧ lcL f n day b c ≤ 1 := by
  intro n
  induction n with
  | zero => intro day b c _ h; simp only [lcL]; rcases h with ⟨_, h⟩ | ⟨_, h⟩ | ⟨_, h1, h2, _⟩ <;> omega
  | succ n ih =>
    intro day b c hd h
    have hfd := hf day
    simp only [lcL]
    by_cases z : f day = 0
    · rw [if_pos z]
      refine ih _ _ _ (by omega) ?_
      rcases h with h | h | ⟨h1, h2, h3, a, h4, h5, h6⟩
      · exact .inl h
      · exact .inr (.inl h)
      · exact .inr (.inr ⟨h1, h2, h3, a, h4, by omega, h6⟩)
    · rw [if_neg z]
      rcases h with ⟨h1, h2⟩ | ⟨h1, h2⟩ | ⟨h1, h2, h3, a, h4, h5, h6⟩
      · rw [if_neg (by omega)]
        refine ih _ _ _ (by omega) ?_
        by_cases e : f day = σ
        · exact .inr (.inr ⟨e, by omega, by omega, day, hd, by omega, e⟩)
        · exact .inr (.inl ⟨by omega, h2⟩)
      · by_cases e : f day = σ
        · rw [if_pos (by omega)]
          exact ih _ _ _ (by omega) (.inr (.inr ⟨e, by omega, by omega, day, hd, by omega, e⟩))
        · rw [if_neg (by omega)]
          exact ih _ _ _ (by omega) (.inr (.inl ⟨by omega, h2⟩))
      · have m := mono a day h4 h5 h6
        have e : f day = σ := by omega
        rw [if_neg (by omega)]
        exact ih _ _ _ (by omega) (.inr (.inr ⟨e, h2, h3, day, hd, by omega, e⟩))
theorem lcL_neg (f g : Int → Int) (h : ∀ x, g x = -f x) : ∀ (n : Nat) (day b c : Int), lcL g n day (-b) c = lcL f n day b c := by
  intro n
  induction n with
  | zero => intros; rfl
  | succ n ih =>
    intro day b c
    simp only [lcL, h day]
    by_cases z : f day = 0
    · rw [if_pos (by omega), if_pos z]; exact ih _ _ _
    · rw [if_neg (by omega), if_neg z]
      by_cases e : b ≠ 0 ∧ f day ≠ b
      · rw [if_pos (by omega), if_pos e]; exact ih _ _ _
      · rw [if_neg (by omega), if_neg e]; exact ih _ _ _
theorem reach_line (u d day : Int) : reach u d day = u + (day - 1) * max 0 (u - d) := by
  unfold reach; split
  · rw [show max 0 (u - d) = 0 by omega]; simp
  · rw [show max 0 (u - d) = u - d by omega]
theorem lsgn_pos (u d u' d' w day : Int) : lsgn u d u' d' w day = 1 → reach u' d' day < reach u d day := by
  unfold lsgn sgn; split <;> (try split) <;> omega
theorem lsgn_neg (u d u' d' w day : Int) : lsgn u d u' d' w day = -1 → reach u d day < reach u' d' day := by
  unfold lsgn sgn; split <;> (try split) <;> omega
theorem lsgn_bd (u d u' d' w day : Int) : -1 ≤ lsgn u d u' d' w day ∧ lsgn u d u' d' w day ≤ 1 := sgn_bd _
theorem lc_once (u d u' d' w : Int) (n : Nat) : 0 ≤ lcL (lsgn u d u' d' w) n 1 0 0 ∧ lcL (lsgn u d u' d' w) n 1 0 0 ≤ 1 := by
  have key : ∀ a b G G' : Int, a < b → G' ≤ G → (b - 1) * G' - (b - 1) * G ≤ (a - 1) * G' - (a - 1) * G := fun a b G G' h h' => by
    have := Int.mul_nonneg (show 0 ≤ b - a by omega) (show 0 ≤ G - G' by omega)
    have e : (b - a) * (G - G') = ((b - 1) * G - (b - 1) * G') - ((a - 1) * G - (a - 1) * G') := by
      simp only [Int.sub_mul, Int.mul_sub]; omega
    omega
  by_cases h : max 0 (u' - d') ≤ max 0 (u - d)
  · refine lcL_once (lsgn u d u' d' w) 1 (.inl rfl) (lsgn_bd u d u' d' w) (fun a b ha hab h1 h2 => ?_) n 1 0 0 (by omega) (.inl ⟨rfl, rfl⟩)
    have p := lsgn_pos _ _ _ _ _ _ h1
    have q := lsgn_neg _ _ _ _ _ _ h2
    rw [reach_line, reach_line] at p q
    have := key a b _ _ hab h
    omega
  · refine lcL_once (lsgn u d u' d' w) (-1) (.inr rfl) (lsgn_bd u d u' d' w) (fun a b ha hab h1 h2 => ?_) n 1 0 0 (by omega) (.inl ⟨rfl, rfl⟩)
    have p := lsgn_neg _ _ _ _ _ _ h1
    have q := lsgn_pos u d u' d' w b (by omega)
    rw [reach_line, reach_line] at p q
    have := key a b (max 0 (u' - d')) (max 0 (u - d)) hab (by omega)
    omega
theorem lastL_comm (u d u' d' w : Int) : lastL u d u' d' w = lastL u' d' u d w := by unfold lastL; split <;> split <;> omega
theorem lcV_comm (u d u' d' w : Int) : lcV u d u' d' w = lcV u' d' u d w := by
  have e : ∀ n : Nat, lcL (lsgn u' d' u d w) n 1 0 0 = lcL (lsgn u d u' d' w) n 1 0 0 := fun n => by
    have := lcL_neg (lsgn u d u' d' w) (lsgn u' d' u d w) (fun x => by unfold lsgn sgn; split <;> split <;> (try split) <;> (try split) <;> omega) n 1 0 0
    simpa using this
  unfold lcV
  rw [lastL_comm u d u' d' w, e]
  by_cases c : (gd u d ∧ gw w) ∧ gd u' d'
  · rw [if_pos c, if_pos (show (gd u' d' ∧ gw w) ∧ gd u d from ⟨⟨c.2, c.1.2⟩, c.1.1⟩)]
  · rw [if_neg c, if_neg (show ¬ ((gd u' d' ∧ gw w) ∧ gd u d) from fun z => c ⟨⟨z.2, z.1.2⟩, z.1.1⟩)]
theorem dayH_nn (u d h : Int) : 0 ≤ dayH u d h := by
  unfold dayH; split
  · omega
  · split
    · omega
    · have := Int.ediv_nonneg (show 0 ≤ h - u + (u - d) - 1 by omega) (show 0 ≤ u - d by omega); omega
/-- One lead changes where one wins. -/
theorem lc_who (u d u' d' w : Int) : (lcV u d u' d' w).2 = (whoV u d u' d' w).2 := by
  have a := dayH_nn u d w
  have b := dayH_nn u' d' w
  unfold lcV whoV lastL
  by_cases c : (gd u d ∧ gw w) ∧ gd u' d'
  · rw [if_pos c, if_pos c]
    by_cases z : dayH u d w = 0 ∧ dayH u' d' w = 0
    · rw [if_pos z, if_pos (by rw [if_pos (.inl z.1)]; omega)]
    · rw [if_neg z, if_neg (by split <;> omega)]
      show true = _
      split
      · rfl
      · split <;> rfl
  · rw [if_neg c, if_neg c]
theorem lc_bd (u d u' d' w : Int) : 0 ≤ (lcV u d u' d' w).1 ∧ (lcV u d u' d' w).1 ≤ 1 := by
  unfold lcV; split
  · split
    · exact ⟨by simp, by simp⟩
    · exact lc_once _ _ _ _ _ _
  · exact ⟨by simp, by simp⟩
/-! ### evenings with slips -/
/-- Was the top come to before day j + 1? -/
def tp (up : Int) (s : List Int) (w : Int) : Nat → Bool
  | 0 => false
  | j + 1 => tp up s w j || decide (w ≤ mor up s j + up)
def st (up : Int) (s : List Int) (w : Int) (j : Nat) : Int := if tp up s w j = true then w else mor up s j
theorem tp_iff (up : Int) (s : List Int) (w : Int) : ∀ j : Nat, tp up s w j = true ↔ ∃ i, i < j ∧ w ≤ mor up s i + up := by
  intro j; induction j with
  | zero => simp [tp]
  | succ j ih =>
    simp only [tp, Bool.or_eq_true, decide_eq_true_eq, ih]
    constructor
    · rintro (⟨i, h1, h2⟩ | h)
      · exact ⟨i, by omega, h2⟩
      · exact ⟨j, by omega, h⟩
    · rintro ⟨i, h1, h2⟩
      by_cases e : i = j
      · subst e; exact .inr h2
      · exact .inl ⟨i, by omega, h2⟩
theorem hL_at (up : Int) (s : List Int) (w : Int) (hup : 0 ≤ up) : ∀ (n j i : Nat), i < n → (hL up s w n j (st up s w j)).getD i 0 = min w (st up s w (j + i) + up) := by
  intro n; induction n with
  | zero => intro j i h; omega
  | succ n ih =>
    intro j i h
    have e : (if min w (st up s w j + up) = w then w else max 0 (min w (st up s w j + up) - sl s j)) = st up s w (j + 1) := by
      have T : tp up s w (j + 1) = (tp up s w j || decide (w ≤ mor up s j + up)) := rfl
      have M : mor up s (j + 1) = max 0 (mor up s j + up - sl s j) := rfl
      unfold st
      by_cases c : tp up s w j = true
      · have c1 : tp up s w (j + 1) = true := by rw [T]; simp [c]
        rw [if_pos c, if_pos (by omega), if_pos c1]
      · rw [if_neg c]
        by_cases c2 : w ≤ mor up s j + up
        · have c1 : tp up s w (j + 1) = true := by rw [T]; simp [c2]
          rw [if_pos (by omega), if_pos c1]
        · have c1 : ¬ tp up s w (j + 1) = true := by rw [T]; simp [c, c2]
          rw [if_neg (by omega), if_neg c1, M]; congr 1; omega
    simp only [hL, e]
    cases i with
    | zero => simp
    | succ i => rw [List.getD_cons_succ, ih (j + 1) i (by omega)]; congr 3; omega
theorem rd_nat (l : List Int) (i : Nat) : rd l (i : Int) = l.getD i 0 := by simp [rd]
/-- The evening's height on day i + 1. -/
theorem hs_at (up : Int) (s : List Int) (w : Int) (hup : 0 ≤ up) (n i : Nat) (h : i < n) : rd (hL up s w n 0 0) (i : Int) = min w (st up s w i + up) := by
  have := hL_at up s w hup n 0 i h
  rw [rd_nat]
  simpa [st, tp, mor] using this
/-- What the day of the top says of evenings. -/
def DSx (up : Int) (s : List Int) (w too : Int) (b7 : Bool) : Prop := DS up s w (too, b7)
theorem hs_top (up : Int) (s : List Int) (w too : Int) (b7 : Bool) (hup : 1 ≤ up) (h : DS up s w (too, b7)) (i : Nat) :
    (min w (st up s w i + up) = w ∧ b7 = true ∧ too ≤ (i : Int) + 1) ∨ (min w (st up s w i + up) ≠ w ∧ b7 = true ∧ (i : Int) + 1 < too) ∨ (min w (st up s w i + up) ≠ w ∧ b7 = false) := by
  have T := tp_iff up s w i
  have key : (min w (st up s w i + up) = w) ↔ ∃ q, q ≤ i ∧ w ≤ mor up s q + up := by
    unfold st
    by_cases c : tp up s w i = true
    · rw [if_pos c]
      obtain ⟨q, q1, q2⟩ := T.mp c
      exact ⟨fun _ => ⟨q, by omega, q2⟩, fun _ => by omega⟩
    · rw [if_neg c]
      constructor
      · intro z; exact ⟨i, Nat.le_refl _, by omega⟩
      · rintro ⟨q, q1, q2⟩
        by_cases e : q = i
        · subst e; omega
        · exact absurd (T.mpr ⟨q, by omega, q2⟩) c
  rcases h with ⟨j, e, h1, h2⟩ | ⟨e, h1⟩
  · obtain ⟨rfl, rfl⟩ := Prod.mk.inj e
    by_cases z : j ≤ i
    · exact .inl ⟨key.mpr ⟨j, z, by omega⟩, rfl, by omega⟩
    · refine .inr (.inl ⟨fun k => ?_, rfl, by omega⟩)
      obtain ⟨q, q1, q2⟩ := key.mp k
      have := h2 q (by omega); omega
  · obtain ⟨rfl, rfl⟩ := Prod.mk.inj e
    refine .inr (.inr ⟨fun k => ?_, rfl⟩)
    obtain ⟨q, q1, q2⟩ := key.mp k
    have := h1 q; omega
theorem sl_nn (up : Int) (s : List Int) (g : gs up s) (i : Nat) : 0 ≤ sl s i ∧ sl s i ≤ 1000 := sl_bd up s g i
theorem hs_step (up : Int) (s : List Int) (w : Int) (g : gs up s) (hw : 1 ≤ w) (i : Nat) (h : min w (st up s w i + up) < w) : min w (st up s w (i + 1) + up) ≤ min w (st up s w i + up) + up := by
  have m := (mor_bd up s g i).1
  have x := (sl_nn up s g i).1
  have u := g.1
  have T : tp up s w (i + 1) = (tp up s w i || decide (w ≤ mor up s i + up)) := rfl
  have M : mor up s (i + 1) = max 0 (mor up s i + up - sl s i) := rfl
  unfold st at h ⊢
  by_cases c : tp up s w i = true
  · rw [if_pos c] at h; omega
  · rw [if_neg c] at h ⊢
    by_cases c2 : w ≤ mor up s i + up
    · omega
    · have c1 : ¬ tp up s w (i + 1) = true := by rw [T]; simp [c, c2]
      rw [if_neg c1, M]; omega
/-- How far it comes: the greatest evening, if there is no top. -/
theorem gsL_max (up : Int) (s : List Int) : ∀ (n j : Nat) (most : Int), most ≤ gsL up s n j (mor up s j) most ∧ (∀ i, i < n → mor up s (j + i) + up ≤ gsL up s n j (mor up s j) most) ∧ (gsL up s n j (mor up s j) most = most ∨ ∃ i, i < n ∧ gsL up s n j (mor up s j) most = mor up s (j + i) + up) := by
  intro n; induction n with
  | zero => intro j most; exact ⟨by simp [gsL], fun i h => by omega, .inl rfl⟩
  | succ n ih =>
    intro j most
    have e : max 0 (mor up s j + up - sl s j) = mor up s (j + 1) := rfl
    obtain ⟨a, b, c⟩ := ih (j + 1) (max most (mor up s j + up))
    simp only [gsL, e]
    refine ⟨by omega, fun i h => ?_, ?_⟩
    · cases i with
      | zero => simp only [Nat.add_zero]; omega
      | succ i => have := b i (by omega); rw [show j + (i + 1) = j + 1 + i by omega]; exact this
    · rcases c with c | ⟨i, c1, c2⟩
      · by_cases z : mor up s j + up ≤ most
        · exact .inl (by rw [c]; omega)
        · exact .inr ⟨0, by omega, by rw [c]; simp only [Nat.add_zero]; omega⟩
      · exact .inr ⟨i + 1, by omega, by rw [c2, show j + 1 + i = j + (i + 1) by omega]⟩
theorem foldl_max (l : List Int) : ∀ a : Int, a ≤ l.foldl max a ∧ (∀ x ∈ l, x ≤ l.foldl max a) ∧ (l.foldl max a = a ∨ l.foldl max a ∈ l) := by
  induction l with
  | nil => intro a; simp
  | cons y l ih =>
    intro a
    obtain ⟨h1, h2, h3⟩ := ih (max a y)
    simp only [List.foldl_cons]
    refine ⟨by omega, fun x hx => ?_, ?_⟩
    · rcases List.mem_cons.mp hx with rfl | hx
      · omega
      · exact h2 x hx
    · rcases h3 with h3 | h3
      · by_cases z : a ≤ y
        · exact .inr (List.mem_cons.mpr (.inl (by rw [h3]; omega)))
        · exact .inl (by rw [h3]; omega)
      · exact .inr (List.mem_cons_of_mem _ h3)
/-- One slip alone: the slips' mornings are those of a snail. -/
theorem mor_one (up x : Int) (hx : 0 ≤ x) (hu : 0 ≤ up) : ∀ j : Nat, mor up [x] j + up = reach up x ((j : Int) + 1) := by
  intro j; induction j with
  | zero => simp [mor, reach]
  | succ j ih =>
    have e : sl [x] j = x := by simp [sl, Nat.mod_one]
    have M : mor up [x] (j + 1) = max 0 (mor up [x] j + up - sl [x] j) := rfl
    rw [M, e]
    rw [reach_line] at ih ⊢
    rw [show ((j + 1 : Nat) : Int) + 1 - 1 = ((j : Int) + 1 - 1) + 1 by omega, Int.add_mul, Int.one_mul]
    have : 0 ≤ ((j : Int) + 1 - 1) * max 0 (up - x) := Int.mul_nonneg (by omega) (by omega)
    by_cases z : up ≤ x
    · rw [show max 0 (up - x) = 0 by omega] at ih ⊢; simp at ih ⊢; omega
    · rw [show max 0 (up - x) = up - x by omega] at ih this ⊢; omega
theorem reach_mono (u d a b : Int) (h : a ≤ b) : reach u d a ≤ reach u d b := by
  rw [reach_line, reach_line]
  have := Int.mul_le_mul_of_nonneg_right (show a - 1 ≤ b - 1 by omega) (show 0 ≤ max 0 (u - d) by omega)
  omega
theorem one_even (up x w : Int) (hx : 0 ≤ x) (hu : 0 ≤ up) (j : Nat) : min w (st up [x] w j + up) = min w (reach up x ((j : Int) + 1)) := by
  have m := mor_one up x hx hu j
  unfold st
  by_cases c : tp up [x] w j = true
  · rw [if_pos c]
    obtain ⟨i, h1, h2⟩ := (tp_iff up [x] w j).mp c
    rw [mor_one up x hx hu i] at h2
    have := reach_mono up x ((i : Int) + 1) ((j : Int) + 1) (by omega)
    omega
  · rw [if_neg c, m]
theorem one_day (up x w too : Int) (b7 : Bool) (hx : 0 ≤ x) (hu : 0 ≤ up) (h : DS up [x] w (too, b7)) : decide (0 < dayH up x w) = b7 ∧ (b7 = true → dayH up x w = too) := by
  rcases h with ⟨j, e, h1, h2⟩ | ⟨e, h1⟩
  · obtain ⟨rfl, rfl⟩ := Prod.mk.inj e
    rw [mor_one up x hx hu] at h1
    have a := (dayH_le up x w ((j : Int) + 1) (by omega)).mpr h1
    refine ⟨decide_eq_true a.1, fun _ => ?_⟩
    by_cases z : dayH up x w = (j : Int) + 1
    · exact z
    · exfalso
      have b := (dayH_le up x w (dayH up x w) (by omega)).mp ⟨a.1, Int.le_refl _⟩
      have c := h2 (dayH up x w - 1).toNat (by omega)
      rw [mor_one up x hx hu, show (((dayH up x w - 1).toNat : Nat) : Int) + 1 = dayH up x w by omega] at c
      omega
  · obtain ⟨rfl, rfl⟩ := Prod.mk.inj e
    refine ⟨decide_eq_false (fun z => ?_), fun z => by cases z⟩
    have b := (dayH_le up x w (dayH up x w) (by omega)).mp ⟨z, Int.le_refl _⟩
    have c := h1 (dayH up x w - 1).toNat
    rw [mor_one up x hx hu, show (((dayH up x w - 1).toNat : Nat) : Int) + 1 = dayH up x w by omega] at c
    omega
end Go.Proofs.Ytbbglmoenjdloaa.Pure
