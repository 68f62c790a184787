/- The pure statement of the law FnExactParseSnail: what the program's function computes is what the reference's computes. -/
import Derived.Test.YtmjablkekmhnhaaDoorTxPS
namespace Go.Proofs.YtmjablkekmhnhaaDoor.Pure
open Go.RowKit Go.Proofs.YtmjablkekmhnhaaDoor.Tx Go.Proofs.YtmjablkekmhnhaaDoor.OFnExactParseSnail Go.Proofs.YtmjablkekmhnhaaDoorW.PrintWords Go.Proofs.YtmjablkekmhnhaaDoorW.PrintLast Go.Proofs.YtmjablkekmhnhaaDoorW.PrintMore
set_option linter.unusedVariables false
set_option linter.unusedSimpArgs false
theorem son1 (u : Nat) : strOfNums [((u : Nat) : Int)] = bs [UInt8.ofNat u] := rfl
theorem tdiv10n (n : Nat) : Int.tdiv (n : Int) 10 = ((n / 10 : Nat) : Int) := by rw [Int.tdiv_eq_ediv_of_nonneg (by omega)]; omega
theorem tmod10n (n : Nat) : Int.tmod (n : Int) 10 = ((n % 10 : Nat) : Int) := by rw [Int.tmod_eq_emod_of_nonneg (by omega)]; omega
theorem digits_le (u : Nat) (h : u ≤ 1000000000000) : (Lib.decDigits u).length ≤ 21 := by
  have := Lib.itoa_length_le (u : Int) (by omega) (by omega)
  rwa [Lib.itoa_nonneg] at this
theorem e_l1Num_k : ∀ (k n : Nat), n < 10 ^ k → n ≤ 1000000000000 → spec_l1Num.f (k + 1) (n : Int) = some (bs (Lib.decDigits n))
  | k, n, h, hb => by
    unfold spec_l1Num.f
    by_cases c : n < 10
    · have e : (wrap64 (48 + (n : Int))) % 256 = ((48 + n : Nat) : Int) := by unfold wrap64; omega
      rw [if_pos (by omega), e, son1, Lib.decDigits, dif_pos c]
    · cases k with
      | zero => simp at h; omega
      | succ k =>
        have e1 : wrap64 (Int.tdiv (n : Int) 10) = ((n / 10 : Nat) : Int) := by rw [tdiv10n]; unfold wrap64; omega
        have e2 : (wrap64 (48 + Int.tmod (n : Int) 10)) % 256 = ((48 + n % 10 : Nat) : Int) := by rw [tmod10n]; unfold wrap64; omega
        have h10 : n / 10 < 10 ^ k := by rw [Nat.pow_succ] at h; omega
        have hd := digits_le (n / 10) (by omega)
        rw [if_neg (by omega), e1, e_l1Num_k k (n / 10) h10 (by omega), e2]
        simp only [Option.bind_some]
        rw [son1, if_pos (by rw [bs_size, bs_size]; simp only [List.length_cons, List.length_nil]; omega), bs_append]
        conv => rhs; rw [Lib.decDigits, dif_neg c]
theorem e_l1Num (k n : Nat) (hk : 13 < k) (hn : n ≤ 1000000000) : spec_l1Num.f k (n : Int) = some (bs (Lib.decDigits n)) := by
  obtain ⟨q, rfl⟩ : ∃ q, k = q + 1 := ⟨k - 1, by omega⟩
  refine e_l1Num_k q n (Nat.lt_of_lt_of_le (show n < 10 ^ 13 by omega) (Nat.pow_le_pow_right (by omega) (by omega))) (by omega)
theorem e_l1Split_l0 (L : List UInt8) (hL : L.length ≤ 100000000) (c : UInt8) : ∀ (n i fr k : Nat) (done : List ByteArray), i + n = L.length → fr ≤ i → n < k → done.length ≤ i →
    spec_l1Split.l0 k (bs L) (c.toNat : Int) done (fr : Int) (i : Int) = some (done ++ (spla c ((L.drop fr).take (i - fr)) (L.drop i)).map bs) := by
  intro n
  induction n with
  | zero =>
    intro i fr k done hi hf hk hd
    obtain ⟨k, rfl⟩ : ∃ q, k = q + 1 := ⟨k - 1, by omega⟩
    have hdr : L.drop i = [] := List.drop_eq_nil_of_le (by omega)
    unfold spec_l1Split.l0
    rw [bs_size, if_neg (by omega), if_pos (by omega), if_pos (by omega), if_pos (by omega), hdr, bs_extract]
    simp only [spla, List.map_cons, List.map_nil, Int.toNat_natCast]
    rw [show L.length = i by omega]
  | succ n ih =>
    intro i fr k done hi hf hk hd
    obtain ⟨k, rfl⟩ : ∃ q, k = q + 1 := ⟨k - 1, by omega⟩
    have hil : i < L.length := by omega
    have hb := bt_bs L (i : Int) (by simpa using hil)
    simp only [Int.toNat_natCast] at hb
    have hdr : L.drop i = L[i] :: L.drop (i + 1) := List.drop_eq_getElem_cons hil
    have hw : wrap64 ((i : Int) + 1) = ((i + 1 : Nat) : Int) := by unfold wrap64; omega
    unfold spec_l1Split.l0
    rw [bs_size, if_pos (by omega), if_pos (by omega), hb, hw, hdr]
    by_cases e : L[i] = c
    · rw [if_pos (by rw [e]), if_pos (by omega), if_pos (by omega), if_pos (by omega), if_pos (by omega), bs_extract, ih (i + 1) (i + 1) k _ (by omega) (by omega) (by omega) (by simp; omega)]
      simp only [spla, if_pos e, Int.toNat_natCast, Nat.sub_self, List.take_zero, List.map_cons, List.append_assoc, List.cons_append, List.nil_append]
    · rw [if_neg (by intro z; exact e (UInt8.toNat_inj.1 (by omega))), ih (i + 1) fr k _ (by omega) (by omega) (by omega) (by omega)]
      have ht : (L.drop fr).take (i + 1 - fr) = (L.drop fr).take (i - fr) ++ [L[i]] := by
        rw [show i + 1 - fr = (i - fr) + 1 by omega, List.take_succ_eq_append_getElem (by rw [List.length_drop]; omega)]
        congr 2
        rw [List.getElem_drop]
        congr 1
        omega
      rw [ht]
      simp only [spla, if_neg e]
theorem e_l1Split (k : Nat) (L : List UInt8) (c : UInt8) (hL : L.length ≤ 100000000) (hk : L.length < k) : spec_l1Split.f k (bs L) (c.toNat : Int) = some ((spl c L).map bs) := by
  have := e_l1Split_l0 L hL c L.length 0 0 k [] (by omega) (by omega) hk (by simp)
  simpa [spec_l1Split.f, spl] using this
def dgs (p : List UInt8) : Prop := ∀ x ∈ p, 48 ≤ x.toNat ∧ x.toNat ≤ 57
instance (p : List UInt8) : Decidable (dgs p) := by unfold dgs; infer_instance
def dstep (a : Nat) (x : UInt8) : Nat := 10 * a + (x.toNat - 48)
def numL (acc : Nat) (l : List UInt8) : Nat := l.foldl dstep acc
theorem numL_nil (acc : Nat) : numL acc [] = acc := rfl
theorem numL_cons (acc : Nat) (x : UInt8) (r : List UInt8) : numL acc (x :: r) = numL (10 * acc + (x.toNat - 48)) r := by
  unfold numL
  rw [List.foldl_cons]
  unfold dstep
  exact Eq.refl _
theorem numL_snoc (c : UInt8) (q : List UInt8) (acc : Nat) : numL acc (q ++ [c]) = 10 * numL acc q + (c.toNat - 48) := by
  unfold numL
  rw [List.foldl_append, List.foldl_cons, List.foldl_nil]
  exact dstep.eq_1 _ _
theorem numL_dec (u : Nat) : numL 0 (Lib.decDigits u) = u := by
  induction u using Nat.strongRecOn with
  | _ u ih =>
    rw [Lib.decDigits]
    split
    · rename_i h
      have := ofn u h
      rw [numL_cons, numL_nil]
      omega
    · rename_i h
      have := ofn (u % 10) (by omega)
      rw [numL_snoc, ih (u / 10) (by omega)]
      omega
theorem dec_num (p : List UInt8) : ∀ (n : Nat), p.length = n + 1 → dgs p → (p.head? ≠ some 48 ∨ n = 0) → Lib.decDigits (numL 0 p) = p := by
  intro n
  induction n generalizing p with
  | zero =>
    intro h hd _
    match p, h with
    | [c], _ =>
      have hc := hd c (by simp)
      rw [numL_cons, numL_nil]
      rw [Lib.decDigits, dif_pos (by omega)]
      congr 1
      apply UInt8.toNat_inj.1
      rw [ofn _ (by omega)]
      omega
  | succ n ih =>
    intro h hd hh
    have hh : p.head? ≠ some 48 := hh.resolve_right (by omega)
    obtain ⟨q, c, rfl⟩ : ∃ q c, p = q ++ [c] := ⟨p.dropLast, p.getLast (by intro e; subst e; simp at h), (List.dropLast_concat_getLast _).symm⟩
    have hq : q.length = n + 1 := by simp at h; omega
    have hc := hd c (by simp)
    have hqh : q.head? ≠ some 48 := by
      cases q with
      | nil => simp at hq
      | cons a b => simpa using hh
    have i := ih q hq (fun x hx => hd x (by simp [hx])) (.inl hqh)
    rw [numL_snoc]
    have hz : numL 0 q ≠ 0 := by
      intro e
      rw [e, Lib.decDigits_one (by omega)] at i
      rw [← i] at hqh
      exact hqh rfl
    rw [Lib.decDigits, dif_neg (by omega)]
    have e1 : (10 * numL 0 q + (c.toNat - 48)) / 10 = numL 0 q := by omega
    have e2 : (10 * numL 0 q + (c.toNat - 48)) % 10 = c.toNat - 48 := by omega
    rw [e1, e2, i]
    congr 2
    apply UInt8.toNat_inj.1
    rw [ofn _ (by omega)]
    omega
theorem dec_len : ∀ (k u : Nat), u < 10 ^ (k + 1) → (Lib.decDigits u).length ≤ k + 1
  | k, u, h => by
    rw [Lib.decDigits]
    split
    · simp
    · rename_i hu
      cases k with
      | zero => simp at h; omega
      | succ k =>
        have := dec_len k (u / 10) (by rw [Nat.pow_succ] at h; omega)
        simp only [List.length_append, List.length_cons, List.length_nil]
        omega
theorem dec_pos (u : Nat) : 1 ≤ (Lib.decDigits u).length := by
  have := dig_ne u
  cases h : Lib.decDigits u with
  | nil => exact absurd h this
  | cons a b => simp
theorem dec_long : ∀ (n v : Nat), 10 ^ n ≤ v → n + 1 ≤ (Lib.decDigits v).length
  | 0, v, _ => dec_pos v
  | n + 1, v, hv => by
    rw [Nat.pow_succ] at hv
    have h1 : 1 ≤ 10 ^ n := Nat.one_le_pow _ _ (by omega)
    rw [Lib.decDigits, dif_neg (by omega)]
    have := dec_long n (v / 10) (by omega)
    simp only [List.length_append, List.length_cons, List.length_nil]
    omega
theorem dec_head (u : Nat) (h : 10 ≤ u) : (Lib.decDigits u).head? ≠ some 48 := by
  induction u using Nat.strongRecOn with
  | _ u ih =>
    rw [Lib.decDigits, dif_neg (by omega)]
    have hne := dig_ne (u / 10)
    cases hd : Lib.decDigits (u / 10) with
    | nil => exact absurd hd hne
    | cons a b =>
      by_cases h2 : 10 ≤ u / 10
      · have := ih (u / 10) (by omega) h2
        rw [hd] at this
        simpa using this
      · rw [Lib.decDigits_one (by omega)] at hd
        have e : a = UInt8.ofNat (48 + u / 10) := by have := (List.cons.inj hd).1; exact this.symm
        intro z
        simp only [List.cons_append, List.head?_cons, Option.some.injEq] at z
        rw [e] at z
        have := ofn (u / 10) (by omega)
        rw [z] at this
        have h48 : (48 : UInt8).toNat = 48 := rfl
        omega
theorem e_l1Read_l0 (L : List UInt8) (hL : L.length ≤ 6) : ∀ (n i k acc : Nat), i + n = L.length → n < k → acc < 10 ^ i → spec_l1Read.l0 k (bs L) (acc : Int) (i : Int) = some (if dgs (L.drop i) then (numL acc (L.drop i) : Int) else -1) := by
  intro n
  induction n with
  | zero =>
    intro i k acc hi hk ha
    obtain ⟨k, rfl⟩ : ∃ q, k = q + 1 := ⟨k - 1, by omega⟩
    have hdr : L.drop i = [] := List.drop_eq_nil_of_le (by omega)
    unfold spec_l1Read.l0
    rw [bs_size, if_neg (by omega), hdr, if_pos (by intro x hx; simp at hx)]
    rfl
  | succ n ih =>
    intro i k acc hi hk ha
    obtain ⟨k, rfl⟩ : ∃ q, k = q + 1 := ⟨k - 1, by omega⟩
    have hil : i < L.length := by omega
    have hb := bt_bs L (i : Int) (by simpa using hil)
    simp only [Int.toNat_natCast] at hb
    have hdr : L.drop i = L[i] :: L.drop (i + 1) := List.drop_eq_getElem_cons hil
    have hw : wrap64 ((i : Int) + 1) = ((i + 1 : Nat) : Int) := by unfold wrap64; omega
    have ha5 : acc < 100000 := Nat.lt_of_lt_of_le ha (Nat.pow_le_pow_right (n := 10) (by decide) (show i ≤ 5 by omega))
    unfold spec_l1Read.l0
    rw [bs_size, if_pos (by omega), if_pos (by omega), hb, hw, hdr]
    by_cases c1 : (L[i].toNat : Int) < 48
    · rw [if_pos c1, if_neg (by intro z; have := z L[i] List.mem_cons_self; omega)]
    · by_cases c2 : (L[i].toNat : Int) > 57
      · rw [if_neg c1, if_pos c2, if_neg (by intro z; have := z L[i] List.mem_cons_self; omega)]
      · have e : wrap64 (wrap64 (10 * (acc : Int)) + ((L[i].toNat : Int) - 48) % 256) = ((10 * acc + (L[i].toNat - 48) : Nat) : Int) := by
          clear ih hdr hb hw ha
          generalize L[i].toNat = d at *
          rw [show wrap64 (10 * (acc : Int)) = 10 * (acc : Int) by unfold wrap64; omega, show ((d : Int) - 48) % 256 = (d : Int) - 48 by omega]
          unfold wrap64; omega
        have hpw : 10 * acc + (L[i].toNat - 48) < 10 ^ (i + 1) := by
          rw [Nat.pow_succ]
          generalize 10 ^ i = t at ha
          clear ih hdr hb hw
          omega
        rw [if_neg c1, if_neg c2, e, ih (i + 1) k _ (by omega) (by omega) hpw]
        have hiff : dgs (L[i] :: L.drop (i + 1)) ↔ dgs (L.drop (i + 1)) := ⟨fun z x hx => z x (List.mem_cons_of_mem _ hx), fun z x hx => by rcases List.mem_cons.1 hx with rfl | hx; exact ⟨by omega, by omega⟩; exact z x hx⟩
        simp only [hiff, numL_cons]
/-- The number read, or -1. -/
theorem e_l1Read (k : Nat) (p : List UInt8) (hk : 20 < k) : (∃ u : Nat, u ≤ 999999 ∧ p = Lib.decDigits u ∧ spec_l1Read.f k (bs p) = some (u : Int)) ∨ ((∀ u : Nat, u ≤ 999999 → p ≠ Lib.decDigits u) ∧ spec_l1Read.f k (bs p) = some (-1)) := by
  obtain ⟨k, rfl⟩ : ∃ q, k = q + 1 := ⟨k - 1, by omega⟩
  have hsmall : ∀ u : Nat, u ≤ 999999 → (Lib.decDigits u).length ≤ 6 := fun u hu => dec_len 5 u (by omega)
  have hin : spec_l1In.f (p.length : Int) 1 6 = some (decide (1 ≤ p.length ∧ p.length ≤ 6)) := by
    unfold spec_l1In.f
    by_cases c1 : 1 ≤ p.length
    · rw [if_pos (by omega)]
      congr 1
      rw [decide_eq_decide]
      omega
    · rw [if_neg (by omega), decide_eq_false (by omega)]
  have key1 : ¬ (1 ≤ p.length ∧ p.length ≤ 6) → spec_l1Read.f (k + 1) (bs p) = some (-1) := by
    intro h
    unfold spec_l1Read.f
    rw [bs_size, hin, decide_eq_false h]
    rfl
  have hl0 : p.length ≤ 6 → spec_l1Read.l0 k (bs p) 0 0 = some (if dgs p then (numL 0 p : Int) else -1) := by
    intro h
    have hl := e_l1Read_l0 p h p.length 0 k 0 (by omega) (by omega) (by simp)
    rw [List.drop_zero] at hl
    exact hl
  have key2 : (h : 1 ≤ p.length ∧ p.length ≤ 6) → spec_l1Read.f (k + 1) (bs p) = if p.head? = some 48 ∧ 1 < p.length then some (-1) else some (if dgs p then (numL 0 p : Int) else -1) := by
    intro h
    have hb : bt (bs p) 0 = ((p[0]'(by omega)).toNat : Int) := bt_bs p 0 (by show 0 < p.length; omega)
    have hh : p.head? = some (p[0]'(by omega)) := by rw [List.head?_eq_getElem?, List.getElem?_eq_getElem (by omega)]
    have hj : ∀ b : Bool, spec_l1Read.j0 (k + 1) (bs p) b = if b = true then some (-1) else some (if dgs p then (numL 0 p : Int) else -1) := by
      intro b
      simp only [spec_l1Read.j0, hl0 h.2]
    have h48 : (48 : UInt8).toNat = 48 := rfl
    unfold spec_l1Read.f
    rw [bs_size, hin, decide_eq_true h]
    simp only [Option.bind_some, if_true]
    rw [if_pos (by omega), hb, hj, hj, hh]
    by_cases q : p.head? = some 48 ∧ 1 < p.length
    · have z : p[0]'(by omega) = 48 := by rw [hh] at q; exact Option.some.inj q.1
      rw [← hh, if_pos q, if_pos (by rw [z]; rfl), if_pos (decide_eq_true (by omega))]
    · rw [← hh, if_neg q]
      by_cases z : p[0]'(by omega) = 48
      · have y : ¬ 1 < p.length := fun y => q ⟨by rw [hh, z], y⟩
        rw [if_pos (by rw [z]; rfl), if_neg (by rw [decide_eq_false (by omega)]; simp)]
      · have z2 : ¬ ((p[0]'(by omega)).toNat : Int) = 48 := by intro w; apply z; apply UInt8.toNat_inj.1; omega
        rw [if_neg z2, if_neg (by simp)]
  by_cases ex : ∃ u : Nat, u ≤ 999999 ∧ p = Lib.decDigits u
  · obtain ⟨u, hu, rfl⟩ := ex
    refine .inl ⟨u, hu, rfl, ?_⟩
    rw [key2 ⟨dec_pos u, hsmall u hu⟩]
    have hz : ¬ ((Lib.decDigits u).head? = some 48 ∧ 1 < (Lib.decDigits u).length) := by
      intro ⟨z1, z2⟩
      by_cases h10 : 10 ≤ u
      · exact dec_head u h10 z1
      · rw [Lib.decDigits_one (by omega)] at z2
        simp at z2
    rw [if_neg hz, if_pos (show dgs (Lib.decDigits u) from dig_le u), numL_dec]
  · refine .inr ⟨fun u hu e => ex ⟨u, hu, e⟩, ?_⟩
    by_cases hl : 1 ≤ p.length ∧ p.length ≤ 6
    · rw [key2 hl]
      split
      · rfl
      · rename_i hz
        split
        · rename_i hd
          exfalso
          have e := dec_num p (p.length - 1) (by omega) hd (by
            by_cases h1 : p.length - 1 = 0
            · exact .inr h1
            · exact .inl (fun q => hz ⟨q, by omega⟩))
          refine ex ⟨numL 0 p, ?_, e.symm⟩
          apply Classical.byContradiction
          intro hb
          have := dec_long 6 (numL 0 p) (by omega)
          rw [e] at this
          omega
        · rfl
    · exact key1 hl
theorem e_snText (k : Nat) (u d : Int) (hk : 13 < k) (hu : 0 ≤ u ∧ u ≤ 1000000000) (hd : 0 ≤ d ∧ d ≤ 1000000000) : spec_snText.f k u d = some (bs (j2 u d [45])) := by
  obtain ⟨m, rfl⟩ : ∃ m : Nat, u = m := ⟨u.toNat, by omega⟩
  obtain ⟨n, rfl⟩ : ∃ n : Nat, d = n := ⟨d.toNat, by omega⟩
  have l1 := digits_le m (by omega)
  have l2 := digits_le n (by omega)
  unfold spec_snText.f
  rw [e_l1Num k m hk (by omega), e_l1Num k n hk (by omega)]
  simp only [Option.bind_some]
  have b45 : (⟨#[45]⟩ : ByteArray) = bs [45] := rfl
  rw [if_pos (by rw [bs_size]; omega), b45, bs_append, if_pos (by rw [bs_size, bs_size]; simp only [List.length_append, List.length_cons, List.length_nil]; omega), bs_append, j2_eq, Lib.itoa_nonneg, Lib.itoa_nonneg, List.append_assoc]
def gSn (u d : Int) : Prop := (1 ≤ u ∧ u ≤ 1000) ∧ (0 ≤ d ∧ d ≤ 1000)
instance (u d : Int) : Decidable (gSn u d) := by unfold gSn; infer_instance
theorem gSn_iff (u d : Int) : gSn u d ↔ (1 ≤ u ∧ u ≤ 1000) ∧ (0 ≤ d ∧ d ≤ 1000) := Iff.rfl
theorem e_snGood' (u d : Int) : spec_snGood.f u d = some (decide (gSn u d)) := by
  have hg := gSn_iff u d
  unfold spec_snGood.f spec_l1In.f
  by_cases h1 : u ≥ 1
  · rw [if_pos h1]
    simp only [Option.bind_some, decide_eq_true_eq]
    by_cases h2 : u ≤ 1000
    · rw [if_pos h2]
      by_cases h3 : d ≥ 0
      · rw [if_pos h3]
        simp only [Option.bind_some]
        congr 1
        rw [decide_eq_decide, hg]
        omega
      · rw [if_neg h3]
        simp only [Option.bind_some]
        rw [decide_eq_false (by rw [hg]; omega)]
    · rw [if_neg h2, decide_eq_false (by rw [hg]; omega)]
  · rw [if_neg h1]
    simp only [Option.bind_some, Bool.false_eq_true, if_false]
    rw [decide_eq_false (by rw [hg]; omega)]
theorem e_IsSnail' (u d : Int) : impl_IsSnail.f u d = some (decide (gSn u d)) := by
  have hg := gSn_iff u d
  unfold impl_IsSnail.f impl_within.f
  by_cases h1 : u ≥ 1
  · rw [if_pos h1]
    simp only [Option.bind_some, decide_eq_true_eq]
    by_cases h2 : u ≤ 1000
    · rw [if_pos h2]
      by_cases h3 : d ≥ 0
      · rw [if_pos h3]
        simp only [Option.bind_some]
        congr 1
        rw [decide_eq_decide, hg]
        omega
      · rw [if_neg h3]
        simp only [Option.bind_some]
        rw [decide_eq_false (by rw [hg]; omega)]
    · rw [if_neg h2, decide_eq_false (by rw [hg]; omega)]
  · rw [if_neg h1]
    simp only [Option.bind_some, Bool.false_eq_true, if_false]
    rw [decide_eq_false (by rw [hg]; omega)]
theorem itoa_len2 (n : Int) (k : Nat) (h0 : 0 ≤ n) (h : n.natAbs < 10 ^ (k + 1)) : (Lib.itoa n).length ≤ k + 1 := by
  unfold Lib.itoa
  rw [if_neg (by omega)]
  have := dec_len k n.toNat (by rw [show n.toNat = n.natAbs by omega]; exact h)
  omega
theorem psRes_no {r : Option (List Int)} (h : ∀ p q, r = some [p, q] → ¬ gSn p q) : psRes r = (0, 0, false) := by
  unfold psRes
  split
  · rename_i p q
    rw [e_IsSnail', if_neg]
    rw [decide_eq_false (h p q rfl)]
    simp
  · rfl
theorem e_ParseSnail (k : Nat) (s : ByteArray) (hs : s.size ≤ 2000000) (hk : 3000000 < k) : spec_ParseSnail.f k s = some (psRes (rdN (spl 45 s.data.toList))) := by
  have hsz : s.data.toList.length = s.size := (Lib.size_eq s).symm
  have h45 : ((45 : UInt8).toNat : Int) = 45 := rfl
  have hsp := e_l1Split k s.data.toList 45 (by omega) (by omega)
  rw [h45, bs_of] at hsp
  obtain ⟨k, rfl⟩ : ∃ q, k = q + 1 := ⟨k - 1, by omega⟩
  have j0t : ∀ t, spec_ParseSnail.j0 (k + 1) s t true = some (0, 0, false) := fun t => rfl
  unfold spec_ParseSnail.f
  rw [hsp]
  simp only [Option.bind_some, List.length_map]
  have hjoin := spl_join 45 s.data.toList
  -- an answer of the program's own is a short text
  have short : ∀ p q, rdN (spl 45 s.data.toList) = some [p, q] → gSn p q → s.size ≤ 9 ∧ s.data.toList = Lib.itoa p ++ ([45] ++ Lib.itoa q) := by
    intro p q hr hg
    obtain ⟨e, _, _⟩ := rdN_two hr
    rw [e] at hjoin
    have ej : Lib.join [Lib.itoa p, Lib.itoa q] [45] = Lib.itoa p ++ ([45] ++ Lib.itoa q) := by simp [Lib.join, List.intercalate]
    rw [ej] at hjoin
    have l1 := itoa_len2 p 3 (by unfold gSn at hg; omega) (by unfold gSn at hg; omega)
    have l2 := itoa_len2 q 3 (by unfold gSn at hg; omega) (by unfold gSn at hg; omega)
    refine ⟨?_, hjoin.symm⟩
    rw [← hsz, ← hjoin]
    simp only [List.length_append, List.length_cons, List.length_nil]
    omega
  by_cases c9 : (s.size : Int) > 9
  · rw [if_pos c9, j0t, psRes_no]
    intro p q hr hg
    have := (short p q hr hg).1
    omega
  · rw [if_neg c9]
    by_cases c2 : (spl 45 s.data.toList).length = 2
    · obtain ⟨a, b, hab⟩ : ∃ a b, spl 45 s.data.toList = [a, b] := by
        match hq : spl 45 s.data.toList, c2 with
        | [a, b], _ => exact ⟨a, b, rfl⟩
      have hne : (((spl 45 s.data.toList).length : Int) != 2) = false := by rw [c2]; rfl
      rw [hne, hab]
      have r0 : rdOf ByteArray.empty ([a, b].map bs) 0 = bs a := rfl
      have r1 : rdOf ByteArray.empty ([a, b].map bs) 1 = bs b := rfl
      have hl2 : ((([a, b].map bs).length : Nat) : Int) = 2 := rfl
      simp only [spec_ParseSnail.j0, Bool.false_eq_true, if_false]
      rw [hl2, if_pos (by decide), r0, r1]
      simp only [show ((1 : Int) < 2) = True from eq_true (by decide), if_true]
      rcases e_l1Read k a (by omega) with ⟨u, hu, rfl, h1⟩ | ⟨hn, h1⟩
      · rcases e_l1Read k b (by omega) with ⟨v, hv, rfl, h2⟩ | ⟨hn2, h2⟩
        · rw [h1, h2]
          simp only [Option.bind_some]
          have hr : rdN [Lib.decDigits u, Lib.decDigits v] = some [(u : Int), (v : Int)] := by
            have := rdN_pair (u : Int) (v : Int) (by omega) (by omega)
            rwa [Lib.itoa_nonneg, Lib.itoa_nonneg] at this
          rw [hr, e_snGood']
          simp only [Option.bind_some, decide_eq_true_eq]
          by_cases hg : gSn (u : Int) (v : Int)
          · have hx := (short (u : Int) (v : Int) (by rw [hab]; exact hr) hg).2
            rw [if_pos hg, e_snText k _ _ (by omega) (by omega) (by omega)]
            simp only [Option.bind_some]
            have ht : (bs (j2 (u : Int) (v : Int) [45])).toList = s.toList := by
              rw [Lib.toList_data, Lib.toList_data, bs_data, j2_eq, hx]
            rw [if_pos ht]
            simp only [psRes]
            rw [e_IsSnail', if_pos (by rw [decide_eq_true hg])]
          · rw [if_neg hg, psRes_no]
            intro p q e
            simp only [Option.some.injEq, List.cons.injEq, and_true] at e
            rw [← e.1, ← e.2]
            exact hg
        · rw [h1, h2]
          simp only [Option.bind_some]
          rw [e_snGood']
          simp only [Option.bind_some, decide_eq_true_eq]
          rw [if_neg (by unfold gSn; omega), psRes_no]
          intro p q hr hg
          obtain ⟨e, _, _⟩ := rdN_two hr
          have e2 := (List.cons.inj (List.cons.inj e).2).1
          refine hn2 q.toNat (by unfold gSn at hg; omega) ?_
          rw [e2]
          have : q = (q.toNat : Int) := by unfold gSn at hg; omega
          conv => lhs; rw [this]
          exact Lib.itoa_nonneg _
      · obtain ⟨v, h2⟩ : ∃ v, spec_l1Read.f k (bs b) = some v := by
          rcases e_l1Read k b (by omega) with ⟨v, hv, _, h2⟩ | ⟨_, h2⟩
          · exact ⟨_, h2⟩
          · exact ⟨_, h2⟩
        rw [h1, h2]
        simp only [Option.bind_some]
        rw [e_snGood']
        simp only [Option.bind_some, decide_eq_true_eq]
        rw [if_neg (by unfold gSn; omega), psRes_no]
        intro p q hr hg
        obtain ⟨e, _, _⟩ := rdN_two hr
        have e2 := (List.cons.inj e).1
        refine hn p.toNat (by unfold gSn at hg; omega) ?_
        rw [e2]
        have : p = (p.toNat : Int) := by unfold gSn at hg; omega
        conv => lhs; rw [this]
        exact Lib.itoa_nonneg _
    · have hne : (((spl 45 s.data.toList).length : Int) != 2) = true := by
        rw [bne_iff_ne]; omega
      rw [hne, j0t, psRes_no]
      intro p q hr hg
      have := rdN_len hr
      simp only [List.length_cons, List.length_nil] at this
      omega

theorem FnExactParseSnail_all (a0 : ByteArray) (W : World) (hw : a0.size ≤ 140737488351232) (ht : T2 W) :
    Calls Tryd.prog 4 #[.string a0] W fun e w' => e = .returned (.bool true) ∧ Below W.heap.size W w' := by
  by_cases h : (a0.size : Int) > 1048576
  · exact lawPS.big a0 W h hw
  · obtain ⟨N, hN⟩ : ∃ N, 99999997 ≤ N := ⟨99999997, by omega⟩
    have hS := e_ParseSnail N a0 (by omega) (by omega)
    obtain ⟨⟨u, d, ok⟩, hr⟩ : ∃ r, psRes (rdN (spl 45 a0.data.toList)) = r := ⟨_, rfl⟩
    rw [hr] at hS
    exact lawPS.calls N a0 W (by omega) u d ok hS (fun W' hT => ps.calls a0 (by omega) W' hT u d ok hr) (by unfold laws_eqSnail.f; rw [if_pos rfl, if_pos rfl]) ht

end Go.Proofs.YtmjablkekmhnhaaDoor.Pure
