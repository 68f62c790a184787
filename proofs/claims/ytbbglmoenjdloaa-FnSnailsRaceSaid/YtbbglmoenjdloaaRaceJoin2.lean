/- The law's walk joined with what its callees answer. -/
import Derived.Test.YtbbglmoenjdloaaPureRace2
import Derived.Test.YtbbglmoenjdloaaRaceWalk2
namespace Go.Proofs.Ytbbglmoenjdloaa.Pure
open Go.RowKit Go.Proofs.Ytbbglmoenjdloaa.OFnSnailsRace Go.Proofs.YtbbglmoenjdloaaW.PrintWords Go.Proofs.YtbbglmoenjdloaaW.PrintLast Go.Proofs.YtbbglmoenjdloaaW.PrintMore
set_option linter.unusedVariables false
set_option linter.unusedSimpArgs false
theorem e_qSame_l0 (l : List Int) (hl : (l.length : Int) ≤ 9000000000000000000) : ∀ (n i k : Nat), i + n = l.length → n < k → laws_qSame.l0 k l l (l.length : Int) (i : Int) = some true := by
  intro n
  induction n with
  | zero =>
    intro i k hi hk
    obtain ⟨k, rfl, hk⟩ := round1 hk
    simp only [laws_qSame.l0]
    rw [if_neg (by omega)]
  | succ n ih =>
    intro i k hi' hk
    obtain ⟨k, rfl, hk⟩ := round1 hk
    simp only [laws_qSame.l0]
    rw [if_pos (by omega), if_pos (by omega), if_pos (by omega), if_pos (by omega), if_pos trivial, w64 _ (by omega) (by omega), show ((i : Int) + 1) = ((i + 1 : Nat) : Int) by omega]
    exact ih (i + 1) k (by omega) (by omega)
theorem e_qSame (k : Nat) (l : List Int) (hl : (l.length : Int) ≤ 9000000000000000000) (hk : l.length < k) : laws_qSame.f k l l = some true := by
  unfold laws_qSame.f
  rw [if_pos rfl]
  exact e_qSame_l0 l hl l.length 0 k (by omega) hk
theorem who_wn (u d u' d' w : Int) (g : (gd u d ∧ gw w) ∧ gd u' d') (h : (whoV u d u' d' w).2 = true) :
    Wn (decide (0 < dayH u d w)) (decide (0 < dayH u' d' w)) (dayH u d w) (dayH u' d' w) (whoV u d u' d' w).1 (whoV u' d' u d w).1 ∧ (whoV u' d' u d w).2 = true := by
  have a := dayH_nn u d w
  have b := dayH_nn u' d' w
  unfold whoV at h ⊢
  rw [if_pos g] at h ⊢
  rw [if_pos (show (gd u' d' ∧ gw w) ∧ gd u d from ⟨⟨g.2, g.1.2⟩, g.1.1⟩)]
  generalize dayH u d w = x at *
  generalize dayH u' d' w = y at *
  by_cases z : x = 0 ∧ y = 0
  · rw [if_pos z] at h; cases h
  · rw [if_neg z, if_neg (show ¬ (y = 0 ∧ x = 0) from fun q => z ⟨q.2, q.1⟩)]
    by_cases e : x = y
    · subst e
      rw [if_pos rfl, decide_eq_true (show 0 < x by omega)]
      exact ⟨.none x, by simp⟩
    · rw [if_neg e, if_neg (show ¬ y = x by omega)]
      by_cases hx : 0 < x
      · by_cases hy : 0 < y
        · rw [decide_eq_true hx, decide_eq_true hy]
          by_cases lt : x < y
          · rw [if_pos (show x > 0 ∧ (y = 0 ∨ x < y) by omega), if_neg (show ¬ (y > 0 ∧ (x = 0 ∨ y < x)) by omega)]
            exact ⟨.oneT x y lt, rfl⟩
          · rw [if_neg (show ¬ (x > 0 ∧ (y = 0 ∨ x < y)) by omega), if_pos (show y > 0 ∧ (x = 0 ∨ y < x) by omega)]
            exact ⟨.twoT x y (by omega), rfl⟩
        · rw [decide_eq_true hx, decide_eq_false hy, if_pos (show x > 0 ∧ (y = 0 ∨ x < y) by omega), if_neg (show ¬ (y > 0 ∧ (x = 0 ∨ y < x)) by omega)]
          exact ⟨.one x y, rfl⟩
      · rw [decide_eq_false hx, decide_eq_true (show 0 < y by omega), if_neg (show ¬ (x > 0 ∧ (y = 0 ∨ x < y)) by omega), if_pos (show y > 0 ∧ (x = 0 ∨ y < x) by omega)]
        exact ⟨.two x y, rfl⟩
theorem mxP_hs (up : Int) (s : List Int) (w : Int) (n : Nat) : mxP (hL up s w n 0 0) (hL up s w n 0 0).length = (hL up s w n 0 0).foldl max 0 := by unfold mxP; rw [List.take_length]
theorem far_facts (up : Int) (s : List Int) (w : Int) (g : gs up s) (hw : 1 ≤ w) (n : Nat) :
    (hL up s w n 0 0).foldl max 0 ≤ gsL up s n 0 0 0 ∧ ((hL up s w n 0 0).foldl max 0 < w → gsL up s n 0 0 0 = (hL up s w n 0 0).foldl max 0) := by
  have hu := g.1
  obtain ⟨f1, f2, f3⟩ := foldl_max (hL up s w n 0 0) 0
  obtain ⟨m1, m2, m3⟩ := gsL_max up s n 0 0
  have e0 : mor up s 0 = 0 := rfl
  rw [e0] at m1 m2 m3
  simp only [Nat.zero_add] at m2 m3
  have mem : ∀ x ∈ hL up s w n 0 0, ∃ i, i < n ∧ x = min w (st up s w i + up) := fun x hx => by
    obtain ⟨i, hi, rfl⟩ := List.mem_iff_getElem.1 hx
    have hi' : i < n := by rw [hL_len] at hi; exact hi
    refine ⟨i, hi', ?_⟩
    have := hs_at up s w (by omega) n i hi'
    rw [rd_nat] at this
    rw [← this]; simp [List.getD_eq_getElem?_getD, hi]
  have at_ : ∀ i, i < n → min w (st up s w i + up) ∈ hL up s w n 0 0 := fun i hi => by
    have := hs_at up s w (by omega) n i hi
    rw [rd_nat] at this
    rw [← this]
    exact getD_mem _ _ (by rw [hL_len]; exact hi)
  have le : ∀ i, i < n → min w (st up s w i + up) ≤ gsL up s n 0 0 0 := fun i hi => by
    unfold st
    by_cases c : tp up s w i = true
    · rw [if_pos c]
      obtain ⟨q, q1, q2⟩ := (tp_iff up s w i).mp c
      have := m2 q (by omega); omega
    · rw [if_neg c]; have := m2 i hi; omega
  refine ⟨?_, fun hlt => ?_⟩
  · rcases f3 with h | h
    · rw [h]; exact m1
    · obtain ⟨i, hi, e⟩ := mem _ h
      rw [e]; exact le i hi
  · have no : ∀ i, i < n → mor up s i + up < w := fun i hi => by
      have a := f2 _ (at_ i hi)
      by_cases z : w ≤ mor up s i + up
      · exfalso
        have : min w (st up s w i + up) = w := by
          unfold st
          by_cases c : tp up s w i = true
          · rw [if_pos c]; omega
          · rw [if_neg c]; omega
        omega
      · omega
    have ev : ∀ i, i < n → min w (st up s w i + up) = mor up s i + up := fun i hi => by
      have c : ¬ tp up s w i = true := fun c => by
        obtain ⟨q, q1, q2⟩ := (tp_iff up s w i).mp c
        have := no q (by omega); omega
      unfold st; rw [if_neg c]; have := no i hi; omega
    rcases m3 with h | ⟨i, hi, h⟩
    · rw [h] at m1 ⊢
      rcases f3 with k | k
      · omega
      · obtain ⟨i, hi, e⟩ := mem _ k
        have := le i hi; omega
    · have a := f2 _ (at_ i hi)
      rw [ev i hi] at a
      rw [h] at le ⊢
      rcases f3 with k | k
      · have := f1; have b := (mor_bd up s g i).1; omega
      · obtain ⟨j, hj, e⟩ := mem _ k
        have := le j hj; omega
set_option maxHeartbeats 2000000 in
theorem factsA (v : World) (s0 s1 t0 t1 wall day : Int) : FactsA v s0 s1 t0 t1 wall day := by
  obtain ⟨N, hN⟩ : ∃ N, N = 10000000 := ⟨_, rfl⟩
  have lw := lc_who s0 s1 t0 t1 wall
  have lb := lc_bd s0 s1 t0 t1 wall
  refine ⟨(leadV s0 s1 t0 t1 wall day).1, (whoV s0 s1 t0 t1 wall).1, (lcV s0 s1 t0 t1 wall).1, (leadV s0 s1 t0 t1 wall day).2, (whoV s0 s1 t0 t1 wall).2,
    (fun W hW => impl_LeadOf.calls N _ _ _ _ _ _ _ _ W (e_iLeadOf N _ _ _ _ _ _ (by omega))),
    (fun W hW => spec_LeadOf.calls N _ _ _ _ _ _ _ _ W (e_sLeadOf N _ _ _ _ _ _ (by omega))),
    (fun W hW => impl_WhoWins.calls N _ _ _ _ _ _ _ W (e_iWhoWins N _ _ _ _ _ (by omega))),
    (fun W hW => spec_WhoWins.calls N _ _ _ _ _ _ _ W (e_sWhoWins N _ _ _ _ _ (by omega))),
    (fun W hW => lw ▸ impl_LeadChanges.calls N _ _ _ _ _ _ _ W (e_iLeadChanges N _ _ _ _ _ (by omega))),
    (fun W hW => lw ▸ spec_LeadChanges.calls N _ _ _ _ _ _ _ W (e_sLeadChanges N _ _ _ _ _ (by omega))), ?_, ?_⟩
  · intro ok
    have g : ((gd s0 s1 ∧ gw wall) ∧ gd t0 t1) ∧ gw day := by
      by_cases c : ((gd s0 s1 ∧ gw wall) ∧ gd t0 t1) ∧ gw day
      · exact c
      · unfold leadV at ok; rw [if_neg c] at ok; cases ok
    have b1 := reach_bd s0 s1 day g.1.1.1 g.2
    have b2 := reach_bd t0 t1 day g.1.2 g.2
    have u1 := g.1.1.1; have u2 := g.1.2; have u3 := g.1.1.2
    unfold gd at u1 u2; unfold gw at u3
    have e1 : evenV s0 s1 wall day = (min wall (reach s0 s1 day), true) := by unfold evenV; rw [if_pos ⟨g.1.1, g.2⟩]
    have e2 : evenV t0 t1 wall day = (min wall (reach t0 t1 day), true) := by unfold evenV; rw [if_pos ⟨⟨g.1.2, g.1.1.2⟩, g.2⟩]
    have e3 : leadV s0 s1 t0 t1 wall day = (min wall (reach s0 s1 day) - min wall (reach t0 t1 day), true) := by unfold leadV; rw [if_pos g]
    have e4 : leadV t0 t1 s0 s1 wall day = (min wall (reach t0 t1 day) - min wall (reach s0 s1 day), true) := by unfold leadV; rw [if_pos (show ((gd t0 t1 ∧ gw wall) ∧ gd s0 s1) ∧ gw day from ⟨⟨⟨g.1.2, g.1.1.2⟩, g.1.1.1⟩, g.2⟩)]
    refine ⟨min wall (reach s0 s1 day), min wall (reach t0 t1 day), min wall (reach t0 t1 day) - min wall (reach s0 s1 day), ?_, ?_, fun W hW => impl_EveningHeight.calls _ _ _ _ _ _ W (by rw [e_iEveningHeight, e1]), fun W hW => impl_EveningHeight.calls _ _ _ _ _ _ W (by rw [e_iEveningHeight, e2]), fun W hW => impl_LeadOf.calls N _ _ _ _ _ _ _ _ W (by rw [e_iLeadOf N _ _ _ _ _ _ (by omega), e4])⟩
    · rw [e3]; show (_ != _) = false; rw [w64 _ (by omega) (by omega)]; simp
    · rw [e3]; show (_ != wrap64 (-(_ - _))) = false; rw [w64 _ (by omega) (by omega), bne_eq_false_iff_eq]; omega
  · intro one
    have g : (gd s0 s1 ∧ gw wall) ∧ gd t0 t1 := by
      by_cases c : (gd s0 s1 ∧ gw wall) ∧ gd t0 t1
      · exact c
      · unfold whoV at one; rw [if_neg c] at one; cases one
    obtain ⟨wn, o2⟩ := who_wn s0 s1 t0 t1 wall g one
    have e1 : daysV s0 s1 wall = (dayH s0 s1 wall, decide (0 < dayH s0 s1 wall)) := by unfold daysV; rw [if_pos g.1]
    have e2 : daysV t0 t1 wall = (dayH t0 t1 wall, decide (0 < dayH t0 t1 wall)) := by unfold daysV; rw [if_pos ⟨g.2, g.1.2⟩]
    have cm := lcV_comm s0 s1 t0 t1 wall
    refine ⟨dayH s0 s1 wall, dayH t0 t1 wall, (whoV t0 t1 s0 s1 wall).1, _, _, wn, lb.1, lb.2, fun W hW => impl_DaysToTop.calls _ _ _ _ _ W (by rw [e_iDaysToTop, e1]), fun W hW => impl_DaysToTop.calls _ _ _ _ _ W (by rw [e_iDaysToTop, e2]), fun W hW => impl_WhoWins.calls N _ _ _ _ _ _ _ W (by rw [e_iWhoWins N _ _ _ _ _ (by omega), ← o2]), fun W hW => impl_LeadChanges.calls N _ _ _ _ _ _ _ W (by rw [e_iLeadChanges N _ _ _ _ _ (by omega), ← cm, ← one, ← lw])⟩
set_option maxHeartbeats 2000000 in
theorem factsB (w0 : World) (A5 : Option Addr) (c5 : Nat) (l5 : List Int) (up w d : Int) (hr5 : Kd.C (Kd.int .i64) w0 A5 l5.length l5) (hc5 : l5.length ≤ c5) : FactsB w0 A5 c5 l5 up w d := by
  obtain ⟨r, ⟨K1, E1⟩, ⟨K2, E2⟩, D1, D2⟩ := e_Dws up l5 w
  obtain ⟨N, hN⟩ : ∃ N, N = 10000000 + K1 + K2 + l5.length := ⟨_, rfl⟩
  have hlen : (hV up l5 w d).1.length ≤ 1000 := by
    unfold hV; split
    · show (hL up l5 w d.toNat 0 0).length ≤ 1000
      rw [hL_len]; omega
    · simp
  refine ⟨(hV up l5 w d).1, r.1, (gwsV up l5 d).1, (hV up l5 w d).2, r.2, (gwsV up l5 d).2,
    (fun W hW => (impl_HeightsWithSlips.calls N up A5 c5 l5 w d _ _ W (Kd.C_below hr5 hW) hc5 (e_iHws N up l5 w d (by omega))).mono ?_),
    (fun W hW => (spec_HeightsWithSlips.calls N up A5 c5 l5 w d _ _ W (Kd.C_below hr5 hW) hc5 (e_sHws N up l5 w d (by omega))).mono ?_),
    (fun W hW => impl_DaysWithSlips.calls N up A5 c5 l5 w _ _ W (Kd.C_below hr5 hW) hc5 (E2 N (by omega))),
    (fun W hW => (spec_DaysWithSlips.calls N up A5 c5 l5 w _ _ W (Kd.C_below hr5 hW) hc5 (E1 N (by omega))).mono (fun e w' h => ⟨h.1, h.2.below⟩)),
    (fun W hW => impl_GreatestWithSlips.calls N up A5 c5 l5 d (gwsV up l5 d).1 (gwsV up l5 d).2 W (Kd.C_below hr5 hW) hc5 (e_iGws N up l5 d (by omega))),
    (fun W hW => (spec_GreatestWithSlips.calls N up A5 c5 l5 d (gwsV up l5 d).1 (gwsV up l5 d).2 W (Kd.C_below hr5 hW) hc5 (e_sGws N up l5 d (by omega))).mono (fun e w' h => ⟨h.1, h.2.below⟩)),
    (fun W A A' c c' h1 h2 h3 h4 => (laws_qSame.calls N A c _ A' c' _ true W h1 h2 h3 h4 (e_qSame N _ (by omega) (by omega))).mono (fun e w' h => ⟨h.1, h.2.below⟩)), ?_⟩
  · rintro e w' ⟨v, he, hR, hb⟩
    obtain ⟨A, c, rfl, hc, hC⟩ := Kd.R_reads hR
    exact ⟨A, c, he, hc, hC, hb⟩
  · rintro e w' ⟨v, he, hR, hb⟩
    obtain ⟨A, c, rfl, hc, hC⟩ := Kd.R_reads hR
    exact ⟨A, c, he, hc, hC, hb⟩
  · intro five
    have g : (gs up l5 ∧ gw w) ∧ 1 ≤ d ∧ d ≤ 1000 := by
      by_cases c : (gs up l5 ∧ gw w) ∧ 1 ≤ d ∧ d ≤ 1000
      · exact c
      · unfold hV at five; rw [if_neg c] at five; cases five
    have DSr := D1 g.1
    obtain ⟨too, b7⟩ := r
    have u1 := g.1.1.1
    have u3 := g.1.2; unfold gw at u3
    have eh : (hV up l5 w d).1 = hL up l5 w d.toNat 0 0 := by unfold hV; rw [if_pos g]
    have eg : gwsV up l5 d = (gsL up l5 d.toNat 0 0 0, true) := by unfold gwsV; rw [if_pos ⟨g.1.1, by unfold gw; omega⟩]
    have ff := far_facts up l5 w g.1.1 (by omega) d.toNat
    rw [← mxP_hs] at ff
    rw [eh, eg]
    refine ⟨rfl, by rw [hL_len]; omega, g.2.1, g.2.2, u1.2, fun i hi => ?_, ff.1, ff.2, fun h1 => ?_⟩
    · rw [hL_len] at hi
      have a := hs_at up l5 w (by omega) d.toNat i hi
      have t := hs_top up l5 w too b7 (by omega) DSr i
      have m : 0 ≤ st up l5 w i := by unfold st; split; omega; exact (mor_bd up l5 g.1.1 i).1
      rw [← a] at t
      refine ⟨⟨by rw [a]; omega, by rw [a]; omega⟩, t, fun h0 => ?_⟩
      obtain ⟨j, rfl⟩ : ∃ j, i = j + 1 := ⟨i - 1, by omega⟩
      rw [show ((j + 1 : Nat) : Int) - 1 = (j : Int) by omega, a, hs_at up l5 w (by omega) d.toNat j (by omega)]
      have s := hs_step up l5 w g.1.1 (by omega) j
      have m' : 0 ≤ st up l5 w j := by unfold st; split; omega; exact (mor_bd up l5 g.1.1 j).1
      by_cases z : w ≤ min w (st up l5 w j + up)
      · exact .inl z
      · refine .inr ⟨by omega, ?_⟩
        rw [w64 _ (by omega) (by omega)]; exact s (by omega)
    · obtain ⟨x, rfl⟩ : ∃ x, l5 = [x] := by
        match l5, h1 with
        | [x], _ => exact ⟨x, rfl⟩
      have hx := g.1.1.2.2 x (by simp)
      have e5 : rd [x] 0 = x := by simp [rd]
      rw [e5]
      have gx : gd up x := by unfold gd; omega
      have e1 : evenV up x w d = (min w (reach up x d), true) := by unfold evenV; rw [if_pos ⟨⟨gx, g.1.2⟩, by unfold gw; omega⟩]
      have e2 : daysV up x w = (dayH up x w, decide (0 < dayH up x w)) := by unfold daysV; rw [if_pos ⟨gx, g.1.2⟩]
      have od := one_day up x w too b7 (by omega) (by omega) DSr
      have oe := one_even up x w (by omega) (by omega) (d - 1).toNat
      rw [← hs_at up [x] w (by omega) d.toNat (d - 1).toNat (by omega), show (((d - 1).toNat : Nat) : Int) = d - 1 by omega, show d - 1 + 1 = d by omega] at oe
      exact ⟨dayH up x w, fun W hW => impl_EveningHeight.calls _ _ _ _ _ _ W (by rw [e_iEveningHeight, e1, oe]), fun W hW => impl_DaysToTop.calls _ _ _ _ _ W (by rw [e_iDaysToTop, e2, od.1]), od.2⟩
theorem bigF (Ac Am : Option Addr) (cc cm : Nat) (lc lm : List Int) (h : (lc.length : Int) + (lm.length : Int) ≤ 1048576) (W : World) (hr1 : Kd.C (Kd.int .u8) W Ac lc.length lc) (hc1 : lc.length ≤ cc) (hr2 : Kd.C (Kd.int .u8) W Am lm.length lm) (hc2 : lm.length ≤ cm) : Calls Try.prog 33 #[.slice Ac lc.length cc, .slice Am lm.length cm] W fun e w' => e = .returned (.bool false) ∧ Below W.heap.size W w' := by
  have e : laws_big.f lc lm = some false := by
    unfold laws_big.f
    rw [w64 _ (by omega) (by omega)]
    first | (rw [if_neg (by omega)]; simp; omega) | (simp; omega)
  exact (laws_big.calls Ac cc lc Am cm lm false W hr1 hc1 hr2 hc2 e).mono (fun e w' h => ⟨h.1, h.2.below⟩)
theorem bigT (Ac Am : Option Addr) (cc cm : Nat) (lc lm : List Int) (h : ¬ (lc.length : Int) + (lm.length : Int) ≤ 1048576) (W : World) (hr1 : Kd.C (Kd.int .u8) W Ac lc.length lc) (hc1 : lc.length ≤ cc) (hr2 : Kd.C (Kd.int .u8) W Am lm.length lm) (hc2 : lm.length ≤ cm) : Calls Try.prog 33 #[.slice Ac lc.length cc, .slice Am lm.length cm] W fun e w' => e = .returned (.bool true) ∧ Below W.heap.size W w' := by
  have e : laws_big.f lc lm = some true := by
    unfold laws_big.f
    by_cases c : (lc.length : Int) > 1048576
    · rw [if_pos c]
    · rw [if_neg c, w64 _ (by omega) (by omega)]; simp; omega
  exact (laws_big.calls Ac cc lc Am cm lm true W hr1 hc1 hr2 hc2 e).mono (fun e w' h => ⟨h.1, h.2.below⟩)
set_option maxHeartbeats 2000000 in
set_option maxRecDepth 100000 in
theorem race_bigT (Ac Am : Option Addr) (cc cm : Nat) (lc lm : List Int) (w0 : World) (hb : Calls Try.prog 33 #[.slice Ac lc.length cc, .slice Am lm.length cm] w0 fun e w' => e = .returned (.bool true) ∧ Below w0.heap.size w0 w') :
    Calls Try.prog 10 #[.slice Ac lc.length cc, .slice Am lm.length cm] w0 fun e w' => e = .returned (.bool true) ∧ Below w0.heap.size w0 w' := by
  have HB := Aside0.mk hb
  clear hb
  go_enter Try.func10, Try.ntmps10
  go_wp2_with (go_at_call 33; (with_reducible refine HB.out.mono ?_); rintro e w1 ⟨rfl, h1⟩; have H1 := Aside0.mk h1; clear h1)
  go_ret
  exact ⟨rfl, H1.out⟩
theorem code8 (l : List Int) (hw : ∀ x ∈ l, (Lit.int .u8 x).wf = true) (hl : (l.length : Int) ≤ 1048576) : DrawP.Code8 l := ⟨fun x hx => by
  have := hw x hx
  simp [Lit.wf] at this
  have e1 : IntKind.u8.min = 0 := by decide
  have e2 : IntKind.u8.max = 255 := by decide
  rw [e1, e2] at this
  simpa using this, by omega⟩
theorem FnSnailsRace_all (Ac : Option Addr) (cc : Nat) (lc : List Int) (Am : Option Addr) (cm : Nat) (lm : List Int) (w0 : World) (hr1 : Kd.C (Kd.int .u8) w0 Ac lc.length lc) (hc1 : lc.length ≤ cc) (hr2 : Kd.C (Kd.int .u8) w0 Am lm.length lm) (hc2 : lm.length ≤ cm)
    (hm1 : lc.length ≤ maxLen) (hy1 : lc.length * 1 ≤ 140737488351232) (hw1 : ∀ x ∈ lc, (Lit.int .u8 x).wf = true) (hm2 : lm.length ≤ maxLen) (hy2 : lm.length * 1 ≤ 140737488351232) (hw2 : ∀ x ∈ lm, (Lit.int .u8 x).wf = true) :
    Calls Try.prog 10 #[.slice Ac lc.length cc, .slice Am lm.length cm] w0 fun e w' => e = .returned (.bool true) ∧ Below w0.heap.size w0 w' := by
  unfold maxLen at hm1 hm2
  by_cases h : (lc.length : Int) + (lm.length : Int) ≤ 1048576
  · exact race Ac Am cc cm lc lm w0 hr2 (fun W hW => bigF Ac Am cc cm lc lm h W (Kd.C_below hr1 hW) hc1 (Kd.C_below hr2 hW) hc2)
      (fun W hW => DrawP.drawLead Ac cc lc (code8 lc hw1 (by omega)) W (Kd.C_below hr1 hW)) (fun W hW => DrawP.drawHeights Am cm lm (code8 lm hw2 (by omega)) W (Kd.C_below hr2 hW)) factsA factsB
  · exact race_bigT Ac Am cc cm lc lm w0 (bigT Ac Am cc cm lc lm h w0 hr1 hc1 hr2 hc2)
end Go.Proofs.Ytbbglmoenjdloaa.Pure
