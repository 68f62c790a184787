/- The plain part of Go's stable merge: rows of values, orders, what a step of symMerge leaves. -/
namespace Go.Proofs.YtoideilmkcpilaaGreatDoor.SymP
set_option linter.unusedVariables false
variable {α : Type}
/-- The row's entry k. -/
abbrev at_ (d : α) (l : List α) (k : Nat) : α := l.getD k d
def Srt (R : α → α → Prop) (d : α) (l : List α) (a b : Nat) : Prop := ∀ i j, a ≤ i → i < j → j < b → R (l.getD i d) (l.getD j d)
/-- x stands left of y: what the comparer says of (y, x) decides. -/
def Dec (c : α → α → Int) (R : α → α → Prop) (x y : α) : Prop := (c y x < 0 → R y x) ∧ (¬ c y x < 0 → R x y)
def Crs (c : α → α → Int) (R : α → α → Prop) (d : α) (l : List α) (a m b : Nat) : Prop := ∀ i j, a ≤ i → i < m → m ≤ j → j < b → Dec c R (l.getD i d) (l.getD j d)
def Keep (d : α) (l l' : List α) (a b : Nat) : Prop :=
  l'.length = l.length ∧ l'.Perm l ∧ (∀ k, k < a ∨ b ≤ k → l'.getD k d = l.getD k d) ∧ (∀ k, a ≤ k → k < b → ∃ k', a ≤ k' ∧ k' < b ∧ l'.getD k d = l.getD k' d)
theorem Keep.refl (d : α) (l : List α) (a b : Nat) : Keep d l l a b := ⟨rfl, List.Perm.refl _, fun _ _ => rfl, fun k h1 h2 => ⟨k, h1, h2, rfl⟩⟩
theorem Keep.trans {d : α} {l l1 l2 : List α} {a b : Nat} (h : Keep d l l1 a b) (h' : Keep d l1 l2 a b) : Keep d l l2 a b := by
  obtain ⟨e, p, o, i⟩ := h
  obtain ⟨e', p', o', i'⟩ := h'
  refine ⟨e'.trans e, p'.trans p, fun k hk => (o' k hk).trans (o k hk), fun k h1 h2 => ?_⟩
  obtain ⟨k1, a1, b1, q1⟩ := i' k h1 h2
  obtain ⟨k2, a2, b2, q2⟩ := i k1 a1 b1
  exact ⟨k2, a2, b2, q1.trans q2⟩
theorem Keep.wide {d : α} {l l1 : List α} {a b : Nat} (h : Keep d l l1 a b) (a0 b0 : Nat) (ha : a0 ≤ a) (hb : b ≤ b0) : Keep d l l1 a0 b0 := by
  obtain ⟨e, p, o, i⟩ := h
  refine ⟨e, p, fun k hk => o k (by omega), fun k h1 h2 => ?_⟩
  by_cases hk : a ≤ k ∧ k < b
  · obtain ⟨k1, a1, b1, q1⟩ := i k hk.1 hk.2
    exact ⟨k1, by omega, by omega, q1⟩
  · exact ⟨k, h1, h2, o k (by omega)⟩
/-- Two entries change places. -/
def swp (d : α) (l : List α) (i j : Nat) : List α := (l.set i (l.getD j d)).set j (l.getD i d)
theorem swp_length (d : α) (l : List α) (i j : Nat) : (swp d l i j).length = l.length := by simp [swp]
theorem swp_at (d : α) (l : List α) (i j k : Nat) (hi : i < l.length) (hj : j < l.length) : (swp d l i j).getD k d = if k = j then l.getD i d else if k = i then l.getD j d else l.getD k d := by
  unfold swp
  simp only [List.getD_eq_getElem?_getD, List.getElem?_set]
  by_cases h1 : j = k
  · subst h1; simp [hj]
  · by_cases h2 : i = k
    · subst h2; simp [h1, Ne.symm h1, hi]
    · simp [h1, h2, Ne.symm h1, Ne.symm h2]
theorem swp_perm (d : α) (l : List α) (i j : Nat) (hi : i < l.length) (hj : j < l.length) : (swp d l i j).Perm l := by
  unfold swp
  have := List.set_set_perm (as := l) hi hj
  simpa [List.getD_eq_getElem?_getD, hi, hj] using this
/-- Behind a rotation: [s, m) and [m, t) have changed places. -/
def Rot (d : α) (l l' : List α) (s m t : Nat) : Prop :=
  l'.length = l.length ∧ l'.Perm l ∧ ∀ k, l'.getD k d = if s ≤ k ∧ k < s + (t - m) then l.getD (m + (k - s)) d else if s + (t - m) ≤ k ∧ k < t then l.getD (s + (k - s - (t - m))) d else l.getD k d
theorem Rot.none (d : α) (l : List α) (s m t : Nat) (h1 : s ≤ m) (h2 : m ≤ t) (h : s = m ∨ m = t) : Rot d l l s m t := by
  refine ⟨rfl, List.Perm.refl _, fun k => ?_⟩
  split
  · congr 1; omega
  · split
    · congr 1; omega
    · rfl
section
variable {R : α → α → Prop} {c : α → α → Int} {d : α}
/-- What the halves owe behind the rotation. -/
theorem step (tr : ∀ x y z, R x y → R y z → R x z) (l l1 : List α) (a m b s t mid : Nat) (hs : a ≤ s) (hsm : s ≤ m) (hmt : m ≤ t) (htb : t ≤ b) (hmid : s + (t - m) = mid)
    (h1 : Srt R d l a m) (h2 : Srt R d l m b) (hc : Crs c R d l a m b)
    (hA : s = a ∨ t = b ∨ R (l.getD (s - 1) d) (l.getD t d)) (hB : s = m ∨ t = m ∨ R (l.getD (t - 1) d) (l.getD s d))
    (hr : Rot d l l1 s m t) :
    Keep d l l1 a b ∧ Srt R d l1 a s ∧ Srt R d l1 s mid ∧ Crs c R d l1 a s mid ∧ Srt R d l1 mid t ∧ Srt R d l1 t b ∧ Crs c R d l1 mid t b ∧ (∀ i j, a ≤ i → i < mid → mid ≤ j → j < b → R (l1.getD i d) (l1.getD j d)) := by
  obtain ⟨e, p, q⟩ := hr
  have q1 : ∀ k, k < s → l1.getD k d = l.getD k d := fun k hk => by rw [q k, if_neg (by omega), if_neg (by omega)]
  have q2 : ∀ k, s ≤ k → k < mid → l1.getD k d = l.getD (m + (k - s)) d := fun k h h' => by rw [q k, if_pos (by omega)]
  have q3 : ∀ k, mid ≤ k → k < t → l1.getD k d = l.getD (s + (k - mid)) d := fun k h h' => by rw [q k, if_neg (by omega), if_pos (by omega)]; congr 1; omega
  have q4 : ∀ k, t ≤ k → l1.getD k d = l.getD k d := fun k hk => by rw [q k, if_neg (by omega), if_neg (by omega)]
  have A : ∀ i j, a ≤ i → i < s → t ≤ j → j < b → R (l.getD i d) (l.getD j d) := fun i j x1 x2 x3 x4 => by
    rcases hA with h | h | h
    · omega
    · omega
    · have y1 : R (l.getD i d) (l.getD t d) := by
        by_cases z : i = s - 1
        · rw [z]; exact h
        · exact tr _ _ _ (h1 i (s - 1) x1 (by omega) (by omega)) h
      by_cases z : j = t
      · rw [z]; exact y1
      · exact tr _ _ _ y1 (h2 t j (by omega) (by omega) x4)
  have B : ∀ i j, m ≤ i → i < t → s ≤ j → j < m → R (l.getD i d) (l.getD j d) := fun i j x1 x2 x3 x4 => by
    rcases hB with h | h | h
    · omega
    · omega
    · have y1 : R (l.getD i d) (l.getD s d) := by
        by_cases z : i = t - 1
        · rw [z]; exact h
        · exact tr _ _ _ (h2 i (t - 1) x1 (by omega) (by omega)) h
      by_cases z : j = s
      · rw [z]; exact y1
      · exact tr _ _ _ y1 (h1 s j (by omega) (by omega) x4)
  refine ⟨⟨e, p, fun k hk => ?_, fun k k1 k2 => ?_⟩, fun i j x1 x2 x3 => ?_, fun i j x1 x2 x3 => ?_, fun i j x1 x2 x3 x4 => ?_, fun i j x1 x2 x3 => ?_, fun i j x1 x2 x3 => ?_, fun i j x1 x2 x3 x4 => ?_, fun i j x1 x2 x3 x4 => ?_⟩
  · rcases hk with h | h
    · exact q1 k (by omega)
    · exact q4 k (by omega)
  · by_cases z1 : k < s
    · exact ⟨k, k1, k2, q1 k z1⟩
    · by_cases z2 : k < mid
      · exact ⟨m + (k - s), by omega, by omega, q2 k (by omega) z2⟩
      · by_cases z3 : k < t
        · exact ⟨s + (k - mid), by omega, by omega, q3 k (by omega) z3⟩
        · exact ⟨k, k1, k2, q4 k (by omega)⟩
  · rw [q1 i (by omega), q1 j (by omega)]; exact h1 i j x1 x2 (by omega)
  · rw [q2 i (by omega) (by omega), q2 j (by omega) (by omega)]; exact h2 _ _ (by omega) (by omega) (by omega)
  · rw [q1 i (by omega), q2 j (by omega) (by omega)]; exact hc _ _ (by omega) (by omega) (by omega) (by omega)
  · rw [q3 i (by omega) (by omega), q3 j (by omega) (by omega)]; exact h1 _ _ (by omega) (by omega) (by omega)
  · rw [q4 i (by omega), q4 j (by omega)]; exact h2 _ _ (by omega) (by omega) (by omega)
  · rw [q3 i (by omega) (by omega), q4 j (by omega)]; exact hc _ _ (by omega) (by omega) (by omega) (by omega)
  · by_cases z1 : i < s
    · rw [q1 i z1]
      by_cases z2 : j < t
      · rw [q3 j (by omega) z2]; exact h1 _ _ (by omega) (by omega) (by omega)
      · rw [q4 j (by omega)]; exact A _ _ (by omega) (by omega) (by omega) (by omega)
    · rw [q2 i (by omega) (by omega)]
      by_cases z2 : j < t
      · rw [q3 j (by omega) z2]; exact B _ _ (by omega) (by omega) (by omega) (by omega)
      · rw [q4 j (by omega)]; exact h2 _ _ (by omega) (by omega) (by omega)
/-- The halves sorted: all is sorted. -/
theorem join (l1 l2 l3 : List α) (a mid b : Nat) (ha : a ≤ mid) (hb : mid ≤ b)
    (low : ∀ i j, a ≤ i → i < mid → mid ≤ j → j < b → R (l1.getD i d) (l1.getD j d))
    (k1 : Keep d l1 l2 a mid) (s1 : Srt R d l2 a mid) (k2 : Keep d l2 l3 mid b) (s2 : Srt R d l3 mid b) :
    Keep d l1 l3 a b ∧ Srt R d l3 a b := by
  refine ⟨(k1.wide a b (Nat.le_refl _) hb).trans (k2.wide a b ha (Nat.le_refl _)), fun i j x1 x2 x3 => ?_⟩
  obtain ⟨_, _, o1, i1⟩ := k1
  obtain ⟨_, _, o2, i2⟩ := k2
  by_cases z1 : j < mid
  · rw [o2 i (by omega), o2 j (by omega)]; exact s1 i j x1 x2 z1
  · by_cases z2 : mid ≤ i
    · exact s2 i j z2 x2 x3
    · obtain ⟨j', y1, y2, y3⟩ := i2 j (by omega) x3
      obtain ⟨i', w1, w2, w3⟩ := i1 i x1 (by omega)
      rw [o2 i (by omega), w3, y3, o1 j' (by omega)]
      exact low i' j' w1 w2 y1 y2
/-- A keep moves the order of a neighbour's row not. -/
theorem Srt.out {l l' : List α} {a b a' b' : Nat} (h : Srt R d l a' b') (k : Keep d l l' a b) (hd : b' ≤ a ∨ b ≤ a') : Srt R d l' a' b' := fun i j x1 x2 x3 => by
  rw [k.2.2.1 i (by omega), k.2.2.1 j (by omega)]; exact h i j x1 x2 x3
theorem Crs.out {l l' : List α} {a b a' m' b' : Nat} (h : Crs c R d l a' m' b') (k : Keep d l l' a b) (hm : a' ≤ m') (hm' : m' ≤ b') (hd : b' ≤ a ∨ b ≤ a') : Crs c R d l' a' m' b' := fun i j x1 x2 x3 x4 => by
  rw [k.2.2.1 i (by omega), k.2.2.1 j (by omega)]; exact h i j x1 x2 x3 x4
/-- One entry on the left goes in: it was at a, it stands at i - 1 behind. -/
def ShL (d : α) (l l' : List α) (a k : Nat) : Prop := l'.length = l.length ∧ l'.Perm l ∧ ∀ q, l'.getD q d = if a ≤ q ∧ q < k then l.getD (q + 1) d else if q = k then l.getD a d else l.getD q d
theorem ShL.start (l : List α) (a : Nat) : ShL d l l a a := ⟨rfl, List.Perm.refl _, fun q => by rw [if_neg (by omega)]; split <;> simp [*]⟩
theorem ShL.step {l l' : List α} {a k : Nat} (h : ShL d l l' a k) (ha : a ≤ k) (hk : k + 1 < l.length) : ShL d l (swp d l' k (k + 1)) a (k + 1) := by
  obtain ⟨e, p, q⟩ := h
  refine ⟨(swp_length _ _ _ _).trans e, (swp_perm _ _ _ _ (by omega) (by omega)).trans p, fun j => ?_⟩
  rw [swp_at _ _ _ _ _ (by omega) (by omega)]
  by_cases z1 : j = k + 1
  · rw [if_pos z1, q k, if_neg (by omega), if_pos rfl, if_neg (by omega), if_pos z1]
  · rw [if_neg z1]
    by_cases z2 : j = k
    · rw [if_pos z2, q (k + 1), if_neg (by omega), if_neg (by omega), if_pos (by omega), z2]
    · rw [if_neg z2, q j, if_neg z1]
      by_cases z3 : a ≤ j ∧ j < k
      · rw [if_pos z3, if_pos (by omega)]
      · rw [if_neg z3, if_neg z2, if_neg (show ¬ (a ≤ j ∧ j < k + 1) by omega)]
def ShR (d : α) (l l' : List α) (m k : Nat) : Prop := l'.length = l.length ∧ l'.Perm l ∧ ∀ q, l'.getD q d = if k < q ∧ q ≤ m then l.getD (q - 1) d else if q = k then l.getD m d else l.getD q d
theorem ShR.start (l : List α) (m : Nat) : ShR d l l m m := ⟨rfl, List.Perm.refl _, fun q => by rw [if_neg (by omega)]; split <;> simp [*]⟩
theorem ShR.step {l l' : List α} {m k : Nat} (h : ShR d l l' m (k + 1)) (hk : k + 1 ≤ m) (hm : m < l.length) : ShR d l (swp d l' (k + 1) k) m k := by
  obtain ⟨e, p, q⟩ := h
  refine ⟨(swp_length _ _ _ _).trans e, (swp_perm _ _ _ _ (by omega) (by omega)).trans p, fun j => ?_⟩
  rw [swp_at _ _ _ _ _ (by omega) (by omega)]
  by_cases z1 : j = k
  · rw [if_pos z1, q (k + 1), if_neg (by omega), if_pos rfl, if_neg (by omega), if_pos z1]
  · rw [if_neg z1]
    by_cases z2 : j = k + 1
    · rw [if_pos z2, q k, if_neg (by omega), if_neg (by omega), if_pos (by omega), z2]; rfl
    · rw [if_neg z2, q j, if_neg z2]
      by_cases z3 : k + 1 < j ∧ j ≤ m
      · rw [if_pos z3, if_pos (by omega)]
      · rw [if_neg z3, if_neg (by omega), if_neg z1]
theorem ShL.done (tr : ∀ x y z, R x y → R y z → R x z) {l l' : List α} {a b k : Nat} (h : ShL d l l' a k) (hk : a ≤ k ∧ k < b) (hb : b ≤ l.length) (h2 : Srt R d l (a + 1) b)
    (lo : k = a ∨ R (l.getD k d) (l.getD a d)) (hi : k + 1 = b ∨ R (l.getD a d) (l.getD (k + 1) d)) : Keep d l l' a b ∧ Srt R d l' a b := by
  obtain ⟨e, p, q⟩ := h
  have q1 : ∀ j, a ≤ j → j < k → l'.getD j d = l.getD (j + 1) d := fun j x y => by rw [q j, if_pos ⟨x, y⟩]
  have q2 : l'.getD k d = l.getD a d := by rw [q k, if_neg (by omega), if_pos rfl]
  have q3 : ∀ j, j < a ∨ k < j → l'.getD j d = l.getD j d := fun j x => by rw [q j, if_neg (by omega), if_neg (by omega)]
  have L : ∀ j, a < j → j ≤ k → R (l.getD j d) (l.getD a d) := fun j x y => by
    rcases lo with h | h
    · omega
    · by_cases z : j = k
      · rw [z]; exact h
      · exact tr _ _ _ (h2 j k (by omega) (by omega) (by omega)) h
  have H : ∀ j, k < j → j < b → R (l.getD a d) (l.getD j d) := fun j x y => by
    rcases hi with h | h
    · omega
    · by_cases z : j = k + 1
      · rw [z]; exact h
      · exact tr _ _ _ h (h2 (k + 1) j (by omega) (by omega) (by omega))
  refine ⟨⟨e, p, fun j hj => q3 j (by omega), fun j x y => ?_⟩, fun i j x1 x2 x3 => ?_⟩
  · by_cases z1 : j < k
    · exact ⟨j + 1, by omega, by omega, q1 j x z1⟩
    · by_cases z2 : j = k
      · exact ⟨a, by omega, by omega, by rw [z2, q2]⟩
      · exact ⟨j, x, y, q3 j (by omega)⟩
  · by_cases z1 : i < k
    · rw [q1 i x1 z1]
      by_cases z2 : j < k
      · rw [q1 j (by omega) z2]; exact h2 _ _ (by omega) (by omega) (by omega)
      · by_cases z3 : j = k
        · rw [z3, q2]; exact L _ (by omega) (by omega)
        · rw [q3 j (by omega)]; exact h2 _ _ (by omega) (by omega) (by omega)
    · by_cases z2 : i = k
      · rw [z2, q2, q3 j (by omega)]; exact H _ (by omega) x3
      · rw [q3 i (by omega), q3 j (by omega)]; exact h2 _ _ (by omega) (by omega) (by omega)
theorem ShR.done (tr : ∀ x y z, R x y → R y z → R x z) {l l' : List α} {a m k : Nat} (h : ShR d l l' m k) (hk : a ≤ k ∧ k ≤ m) (hb : m < l.length) (h1 : Srt R d l a m)
    (lo : k = a ∨ R (l.getD (k - 1) d) (l.getD m d)) (hi : k = m ∨ R (l.getD m d) (l.getD k d)) : Keep d l l' a (m + 1) ∧ Srt R d l' a (m + 1) := by
  obtain ⟨e, p, q⟩ := h
  have q1 : ∀ j, k < j → j ≤ m → l'.getD j d = l.getD (j - 1) d := fun j x y => by rw [q j, if_pos ⟨x, y⟩]
  have q2 : l'.getD k d = l.getD m d := by rw [q k, if_neg (by omega), if_pos rfl]
  have q3 : ∀ j, j < k ∨ m < j → l'.getD j d = l.getD j d := fun j x => by rw [q j, if_neg (by omega), if_neg (by omega)]
  have L : ∀ j, a ≤ j → j < k → R (l.getD j d) (l.getD m d) := fun j x y => by
    rcases lo with h | h
    · omega
    · by_cases z : j = k - 1
      · rw [z]; exact h
      · exact tr _ _ _ (h1 j (k - 1) (by omega) (by omega) (by omega)) h
  have H : ∀ j, k ≤ j → j < m → R (l.getD m d) (l.getD j d) := fun j x y => by
    rcases hi with h | h
    · omega
    · by_cases z : j = k
      · rw [z]; exact h
      · exact tr _ _ _ h (h1 k j (by omega) (by omega) (by omega))
  refine ⟨⟨e, p, fun j hj => q3 j (by omega), fun j x y => ?_⟩, fun i j x1 x2 x3 => ?_⟩
  · by_cases z1 : j < k
    · exact ⟨j, x, y, q3 j (by omega)⟩
    · by_cases z2 : j = k
      · exact ⟨m, by omega, by omega, by rw [z2, q2]⟩
      · exact ⟨j - 1, by omega, by omega, q1 j (by omega) (by omega)⟩
  · by_cases z1 : j < k
    · rw [q3 i (by omega), q3 j (by omega)]; exact h1 _ _ (by omega) (by omega) (by omega)
    · by_cases z2 : j = k
      · rw [z2, q2, q3 i (by omega)]; exact L _ x1 (by omega)
      · rw [q1 j (by omega) (by omega)]
        by_cases z3 : i < k
        · rw [q3 i (by omega)]; exact h1 _ _ (by omega) (by omega) (by omega)
        · by_cases z4 : i = k
          · rw [z4, q2]; exact H _ (by omega) (by omega)
          · rw [q1 i (by omega) (by omega)]; exact h1 _ _ (by omega) (by omega) (by omega)
end
/-- Two blocks of n entries change places. -/
def Swr (d : α) (l l' : List α) (a b n : Nat) : Prop :=
  l'.length = l.length ∧ l'.Perm l ∧ ∀ k, l'.getD k d = if a ≤ k ∧ k < a + n then l.getD (b + (k - a)) d else if b ≤ k ∧ k < b + n then l.getD (a + (k - b)) d else l.getD k d
theorem Swr.start (d : α) (l : List α) (a b : Nat) : Swr d l l a b 0 := ⟨rfl, List.Perm.refl _, fun k => by rw [if_neg (by omega), if_neg (by omega)]⟩
theorem Swr.step {d : α} {l l' : List α} {a b n : Nat} (h : Swr d l l' a b n) (hab : a + n < b) (hb : b + n < l.length) : Swr d l (swp d l' (a + n) (b + n)) a b (n + 1) := by
  obtain ⟨e, p, q⟩ := h
  refine ⟨(swp_length _ _ _ _).trans e, (swp_perm _ _ _ _ (by omega) (by omega)).trans p, fun j => ?_⟩
  rw [swp_at _ _ _ _ _ (by omega) (by omega)]
  by_cases z1 : j = b + n
  · rw [if_pos z1, q (a + n), if_neg (by omega), if_neg (by omega), if_neg (by omega), if_pos (by omega)]; congr 1; omega
  · rw [if_neg z1]
    by_cases z2 : j = a + n
    · rw [if_pos z2, q (b + n), if_neg (by omega), if_neg (by omega), if_pos (by omega)]; congr 1; omega
    · rw [if_neg z2, q j]
      by_cases z3 : a ≤ j ∧ j < a + n
      · rw [if_pos z3, if_pos (by omega)]
      · rw [if_neg z3, if_neg (show ¬ (a ≤ j ∧ j < a + (n + 1)) by omega)]
        by_cases z4 : b ≤ j ∧ j < b + n
        · rw [if_pos z4, if_pos (by omega)]
        · rw [if_neg z4, if_neg (by omega)]
/-- The rotation's state: [x, y) is still to be rotated about m, what is outside stands as the whole rotation of [s, t) about m leaves it. -/
def RotSt (d : α) (l0 l : List α) (s m t i j : Nat) : Prop :=
  l.length = l0.length ∧ l.Perm l0 ∧ ∀ l', Rot d l l' (m - i) m (m + j) → Rot d l0 l' s m t
theorem RotSt.start (d : α) (l : List α) (s m t : Nat) (h : s ≤ m) (h' : m ≤ t) : RotSt d l l s m t (m - s) (t - m) :=
  ⟨rfl, List.Perm.refl _, fun l' hr => by rwa [show m - (m - s) = s by omega, show m + (t - m) = t by omega] at hr⟩
theorem RotSt.left {d : α} {l0 l l1 : List α} {s m t i j : Nat} (h : RotSt d l0 l s m t i j) (hij : j < i) (hi : i ≤ m) (hj : m + j ≤ l0.length) (hw : Swr d l l1 (m - i) m j) : RotSt d l0 l1 s m t (i - j) j := by
  obtain ⟨e, p, f⟩ := h
  obtain ⟨e1, p1, q1⟩ := hw
  refine ⟨e1.trans e, p1.trans p, fun l' hr => f l' ?_⟩
  obtain ⟨e2, p2, q2⟩ := hr
  refine ⟨e2.trans e1, p2.trans p1, fun k => ?_⟩
  rw [q2 k]
  by_cases z1 : m - i ≤ k ∧ k < m - i + j
  · rw [if_neg (by omega), if_neg (by omega), q1 k, if_pos z1, if_pos (by omega)]
  · by_cases z2 : m - (i - j) ≤ k ∧ k < m - (i - j) + (m + j - m)
    · rw [if_pos z2, q1, if_neg (by omega), if_pos (by omega), if_neg (by omega), if_pos (by omega)]; congr 1; omega
    · rw [if_neg z2]
      by_cases z3 : m - (i - j) + (m + j - m) ≤ k ∧ k < m + j
      · rw [if_pos z3, q1, if_neg (by omega), if_neg (by omega), if_neg (by omega), if_pos (by omega)]; congr 1; omega
      · rw [if_neg z3, q1 k, if_neg z1, if_neg (by omega), if_neg (by omega), if_neg (by omega)]
theorem RotSt.right {d : α} {l0 l l1 : List α} {s m t i j : Nat} (h : RotSt d l0 l s m t i j) (hij : i < j) (hi : i ≤ m) (hj : m + j ≤ l0.length) (hw : Swr d l l1 (m - i) (m + j - i) i) : RotSt d l0 l1 s m t i (j - i) := by
  obtain ⟨e, p, f⟩ := h
  obtain ⟨e1, p1, q1⟩ := hw
  refine ⟨e1.trans e, p1.trans p, fun l' hr => f l' ?_⟩
  obtain ⟨e2, p2, q2⟩ := hr
  refine ⟨e2.trans e1, p2.trans p1, fun k => ?_⟩
  rw [q2 k]
  by_cases z1 : m + j - i ≤ k ∧ k < m + j
  · rw [if_neg (by omega), if_neg (by omega), q1 k, if_neg (by omega), if_pos (by omega), if_neg (by omega), if_pos (by omega)]; congr 1; omega
  · by_cases z2 : m - i ≤ k ∧ k < m - i + (m + (j - i) - m)
    · rw [if_pos z2, q1]
      by_cases z4 : m ≤ m + (k - (m - i)) ∧ m + (k - (m - i)) < m + j - i
      · rw [if_neg (by omega), if_neg (by omega), if_pos (by omega)]
      · omega
    · rw [if_neg z2]
      by_cases z3 : m - i + (m + (j - i) - m) ≤ k ∧ k < m + (j - i)
      · rw [if_pos z3, q1, if_pos (by omega), if_pos (by omega)]; congr 1; omega
      · rw [if_neg z3, q1 k, if_neg (by omega), if_neg (by omega), if_neg (by omega), if_neg (by omega)]
theorem RotSt.done {d : α} {l0 l l1 : List α} {s m t i : Nat} (h : RotSt d l0 l s m t i i) (hi : i ≤ m) (hw : Swr d l l1 (m - i) m i) : Rot d l0 l1 s m t := by
  refine h.2.2 l1 ⟨hw.1, hw.2.1, fun k => ?_⟩
  rw [hw.2.2 k]
  by_cases z1 : m - i ≤ k ∧ k < m - i + i
  · rw [if_pos z1, if_pos (by omega)]
  · rw [if_neg z1]
    by_cases z2 : m ≤ k ∧ k < m + i
    · rw [if_pos z2, if_neg (by omega), if_pos (by omega)]; congr 1; omega
    · rw [if_neg z2, if_neg (by omega), if_neg (by omega)]
end Go.Proofs.YtoideilmkcpilaaGreatDoor.SymP
