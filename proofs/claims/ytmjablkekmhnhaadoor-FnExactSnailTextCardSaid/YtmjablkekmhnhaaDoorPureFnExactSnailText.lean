/- The pure statement of the law FnExactSnailText: what the program's function computes is what the reference's computes. -/
import Derived.Test.YtmjablkekmhnhaaDoorTxST
namespace Go.Proofs.YtmjablkekmhnhaaDoor.Pure
open Go.RowKit Go.Proofs.YtmjablkekmhnhaaDoor.Tx Go.Proofs.YtmjablkekmhnhaaDoor.OFnExactSnailText Go.Proofs.YtmjablkekmhnhaaDoorW.PrintWords Go.Proofs.YtmjablkekmhnhaaDoorW.PrintLast Go.Proofs.YtmjablkekmhnhaaDoorW.PrintMore
set_option linter.unusedVariables false
set_option linter.unusedSimpArgs false
theorem son1 (u : Nat) : strOfNums [((u : Nat) : Int)] = bs [UInt8.ofNat u] := rfl
theorem tdiv10n (n : Nat) : Int.tdiv (n : Int) 10 = ((n / 10 : Nat) : Int) := by rw [Int.tdiv_eq_ediv_of_nonneg (by omega)]; omega
theorem tmod10n (n : Nat) : Int.tmod (n : Int) 10 = ((n % 10 : Nat) : Int) := by rw [Int.tmod_eq_emod_of_nonneg (by omega)]; omega
theorem digits_le (u : Nat) (h : u ≤ 1000000000000) : (Lib.decDigits u).length ≤ 21 := by
  have := Lib.itoa_length_le (u : Int) (by omega) (by omega)
  rwa [Lib.itoa_nonneg] at this
theorem e_l1Num_k : ∀ (k n : Nat), n < 10 ^ k → n ≤ 1000000000000 → spec_l1Num.f (k + 1) (n : Int) = some (bs (Lib.decDigits n))
  | k, n, h, hb => by
    unfold spec_l1Num.f
    by_cases c : n < 10
    · have e : (wrap64 (48 + (n : Int))) % 256 = ((48 + n : Nat) : Int) := by unfold wrap64; omega
      rw [if_pos (by omega), e, son1, Lib.decDigits, dif_pos c]
    · cases k with
      | zero => simp at h; omega
      | succ k =>
        have e1 : wrap64 (Int.tdiv (n : Int) 10) = ((n / 10 : Nat) : Int) := by rw [tdiv10n]; unfold wrap64; omega
        have e2 : (wrap64 (48 + Int.tmod (n : Int) 10)) % 256 = ((48 + n % 10 : Nat) : Int) := by rw [tmod10n]; unfold wrap64; omega
        have h10 : n / 10 < 10 ^ k := by rw [Nat.pow_succ] at h; omega
        have hd := digits_le (n / 10) (by omega)
        rw [if_neg (by omega), e1, e_l1Num_k k (n / 10) h10 (by omega), e2]
        simp only [Option.bind_some]
        rw [son1, if_pos (by rw [bs_size, bs_size]; simp only [List.length_cons, List.length_nil]; omega), bs_append]
        conv => rhs; rw [Lib.decDigits, dif_neg c]
theorem e_l1Num (k n : Nat) (hk : 13 < k) (hn : n ≤ 1000000000) : spec_l1Num.f k (n : Int) = some (bs (Lib.decDigits n)) := by
  obtain ⟨q, rfl⟩ : ∃ q, k = q + 1 := ⟨k - 1, by omega⟩
  refine e_l1Num_k q n (Nat.lt_of_lt_of_le (show n < 10 ^ 13 by omega) (Nat.pow_le_pow_right (by omega) (by omega))) (by omega)
theorem e_snText (k : Nat) (u d : Int) (hk : 13 < k) (hu : 0 ≤ u ∧ u ≤ 1000000000) (hd : 0 ≤ d ∧ d ≤ 1000000000) : spec_snText.f k u d = some (bs (j2 u d [45])) := by
  obtain ⟨m, rfl⟩ : ∃ m : Nat, u = m := ⟨u.toNat, by omega⟩
  obtain ⟨n, rfl⟩ : ∃ n : Nat, d = n := ⟨d.toNat, by omega⟩
  have l1 := digits_le m (by omega)
  have l2 := digits_le n (by omega)
  unfold spec_snText.f
  rw [e_l1Num k m hk (by omega), e_l1Num k n hk (by omega)]
  simp only [Option.bind_some]
  have b45 : (⟨#[45]⟩ : ByteArray) = bs [45] := rfl
  rw [if_pos (by rw [bs_size]; omega), b45, bs_append, if_pos (by rw [bs_size, bs_size]; simp only [List.length_append, List.length_cons, List.length_nil]; omega), bs_append, j2_eq, Lib.itoa_nonneg, Lib.itoa_nonneg, List.append_assoc]
def gSn (u d : Int) : Prop := (1 ≤ u ∧ u ≤ 1000) ∧ (0 ≤ d ∧ d ≤ 1000)
instance (u d : Int) : Decidable (gSn u d) := by unfold gSn; infer_instance
theorem gSn_iff (u d : Int) : gSn u d ↔ (1 ≤ u ∧ u ≤ 1000) ∧ (0 ≤ d ∧ d ≤ 1000) := Iff.rfl
theorem e_snGood' (u d : Int) : spec_snGood.f u d = some (decide (gSn u d)) := by
  have hg := gSn_iff u d
  unfold spec_snGood.f spec_l1In.f
  by_cases h1 : u ≥ 1
  · rw [if_pos h1]
    simp only [Option.bind_some, decide_eq_true_eq]
    by_cases h2 : u ≤ 1000
    · rw [if_pos h2]
      by_cases h3 : d ≥ 0
      · rw [if_pos h3]
        simp only [Option.bind_some]
        congr 1
        rw [decide_eq_decide, hg]
        omega
      · rw [if_neg h3]
        simp only [Option.bind_some]
        rw [decide_eq_false (by rw [hg]; omega)]
    · rw [if_neg h2, decide_eq_false (by rw [hg]; omega)]
  · rw [if_neg h1]
    simp only [Option.bind_some, Bool.false_eq_true, if_false]
    rw [decide_eq_false (by rw [hg]; omega)]
theorem e_IsSnail' (u d : Int) : impl_IsSnail.f u d = some (decide (gSn u d)) := by
  have hg := gSn_iff u d
  unfold impl_IsSnail.f impl_within.f
  by_cases h1 : u ≥ 1
  · rw [if_pos h1]
    simp only [Option.bind_some, decide_eq_true_eq]
    by_cases h2 : u ≤ 1000
    · rw [if_pos h2]
      by_cases h3 : d ≥ 0
      · rw [if_pos h3]
        simp only [Option.bind_some]
        congr 1
        rw [decide_eq_decide, hg]
        omega
      · rw [if_neg h3]
        simp only [Option.bind_some]
        rw [decide_eq_false (by rw [hg]; omega)]
    · rw [if_neg h2, decide_eq_false (by rw [hg]; omega)]
  · rw [if_neg h1]
    simp only [Option.bind_some, Bool.false_eq_true, if_false]
    rw [decide_eq_false (by rw [hg]; omega)]
theorem FnExactSnailText_all (u d : Int) (w : World) (_h0 : (Lit.int .i64 u).wf = true) (_h1 : (Lit.int .i64 d).wf = true) (ht : T1 w) :
    Calls Tryd.prog 3 #[.agg #[.int .i64 u, .int .i64 d]] w fun e w' => e = .returned (.bool true) ∧ Below w.heap.size w w' := by
  obtain ⟨N, hN⟩ : ∃ N, 99999997 ≤ N := ⟨99999997, by omega⟩
  have hto : laws_toSnail.f u d = some (u, d) := rfl
  by_cases c : gSn u d
  · have hb : (-1000000000 ≤ u ∧ u ≤ 1000000000) ∧ (-1000000000 ≤ d ∧ d ≤ 1000000000) ∧ 0 ≤ u ∧ 0 ≤ d := by unfold gSn at c; omega
    refine lawST.calls N u d w (bs (sText u d)) true hto ?_ (fun W hT => stext.yes u d hb.1 hb.2.1 W (by rw [e_IsSnail', decide_eq_true c]) hT) ht
    unfold spec_SnailText.f
    rw [e_snGood', decide_eq_true c, e_snText N u d (by omega) (by omega) (by omega)]
    rfl
  · refine lawST.calls N u d w ⟨#[]⟩ false hto ?_ (fun W hT => stext.no u d W (by rw [e_IsSnail', decide_eq_false c])) ht
    unfold spec_SnailText.f
    rw [e_snGood', decide_eq_false c]
    rfl

end Go.Proofs.YtmjablkekmhnhaaDoor.Pure
