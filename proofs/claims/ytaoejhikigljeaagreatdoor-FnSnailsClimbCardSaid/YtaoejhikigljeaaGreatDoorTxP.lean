/- Strings as lists of bytes, pieces, numerals. -/
import Derived.Lib.SplitLaws
import Derived.Lib.AtoiAllCases
import Derived.Lib.ItoaNum
import Derived.Lib.ItoaMem
import Derived.Lib.ItoaLen
import Derived.Lib.Join
import Derived.Below
import Derived.Deep.Draws
import Derived.Deep.AppendLies
import Derived.Maps.AppendAt
import Derived.OwnWalk
import Derived.Laws.BytesArg
import Derived.Laws.MakeOwn
import Derived.Laws.OwnMore
import Derived.Deep.OwnRows
import Derived.Tactics
import Derived.Lib.ConvBytes
import Derived.Laws.Slices
import Derived.WalkKit
import Derived.KernelRfl
import Derived.RowKit3
import Derived.Deep.LoopGhost
import Derived.Deep.QuietTactic
import Derived.BigQuiet
import Derived.WideLaws
import Derived.Deep.DeepCutAuto
import Derived.Deep.CutBlock
import Derived.Deep.RegionHeld3
import Derived.Laws.Rows
import Derived.Lib.AppendStr
import Derived.ArgAppend
import Derived.Laws.IdiomCopy
import Derived.OrdersHeld
import Derived.Laws.BitsLemmas
import Derived.RowKit
import Derived.Shelf.Abstract
import Derived.Lib.AppendIntMem
import Derived.Test.YtaoejhikigljeaaGreatDoorWWords
import Derived.Test.YtaoejhikigljeaaGreatDoorWLast
import Derived.Test.YtaoejhikigljeaaGreatDoorWTab
import Derived.Test.YtaoejhikigljeaaGreatDoorWKept
import Derived.Test.YtaoejhikigljeaaGreatDoorWMore
import Derived.Test.YtaoejhikigljeaaGreatDoorWApart
import Derived.Test.YtaoejhikigljeaaGreatDoorWZeros
import Derived.Test.YtaoejhikigljeaaGreatDoorWFoot
namespace Go.Proofs.YtaoejhikigljeaaGreatDoor.Tx
open Go.RowKit Go.Proofs.YtaoejhikigljeaaGreatDoorW.PrintWords Go.Proofs.YtaoejhikigljeaaGreatDoorW.PrintLast Go.Proofs.YtaoejhikigljeaaGreatDoorW.PrintMore
set_option linter.unusedVariables false
set_option linter.unusedSimpArgs false
/-! Strings as lists of bytes; pieces between separators; decimal numerals. No program in sight. -/
def bs (l : List UInt8) : ByteArray := ⟨l.toArray⟩
theorem bs_data (l : List UInt8) : (bs l).data.toList = l := by simp [bs]
theorem bs_of (x : ByteArray) : bs x.data.toList = x := by obtain ⟨⟨l⟩⟩ := x; rfl
theorem bs_size (l : List UInt8) : (bs l).size = l.length := by simp [bs, ByteArray.size]
theorem bs_append (l m : List UInt8) : bs l ++ bs m = bs (l ++ m) := by
  apply ByteArray.ext
  simp [bs]
theorem bs_extract (l : List UInt8) (a b : Nat) : (bs l).extract a b = bs ((l.drop a).take (b - a)) := by
  have := Lib.extract_eq (bs l) a b
  rw [bs_data] at this
  exact this
theorem bt_bs (l : List UInt8) (i : Int) (h : i.toNat < l.length) : bt (bs l) i = ((l[i.toNat]'h).toNat : Int) := by
  unfold bt
  rw [dif_pos (by rw [bs_size]; exact h)]
  rfl
/-- The pieces between the bytes c, acc being the piece under way. -/
def spla (c : UInt8) : List UInt8 → List UInt8 → List (List UInt8)
  | acc, [] => [acc]
  | acc, x :: r => if x = c then acc :: spla c [] r else spla c (acc ++ [x]) r
def spl (c : UInt8) (l : List UInt8) : List (List UInt8) := spla c [] l
theorem spla_ne (c : UInt8) : ∀ (l acc : List UInt8), spla c acc l ≠ []
  | [], acc => by simp [spla]
  | x :: r, acc => by unfold spla; split; · simp
                      · exact spla_ne c r _
theorem spla_acc (c : UInt8) : ∀ (l acc : List UInt8), spla c acc l = (acc ++ (spl c l).headD []) :: (spl c l).tail
  | [], acc => by simp [spla, spl]
  | x :: r, acc => by
    by_cases h : x = c
    · simp [spla, spl, h]
    · have e1 := spla_acc c r (acc ++ [x])
      have e2 := spla_acc c r [x]
      simp only [spl, spla, if_neg h, List.nil_append]
      rw [e1, e2]
      simp [spl]
theorem spl_length_le (c : UInt8) : ∀ (l acc : List UInt8), (spla c acc l).length ≤ l.length + 1
  | [], acc => by simp [spla]
  | x :: r, acc => by
    unfold spla
    split
    · have := spl_length_le c r []; simp only [List.length_cons]; omega
    · have := spl_length_le c r (acc ++ [x]); simp only [List.length_cons]; omega
theorem spla_mem_le (c : UInt8) : ∀ (l acc : List UInt8), ∀ p ∈ spla c acc l, p.length ≤ acc.length + l.length
  | [], acc => by simp [spla]
  | x :: r, acc => by
    intro p hp
    unfold spla at hp
    split at hp
    · rcases List.mem_cons.1 hp with rfl | hp
      · simp
      · have := spla_mem_le c r [] p hp; simp only [List.length_nil, List.length_cons] at this ⊢; omega
    · have := spla_mem_le c r _ p hp; simp only [List.length_append, List.length_cons, List.length_nil] at this ⊢; omega
/-- Cut, and joined again. -/
theorem spla_join (c : UInt8) : ∀ (l acc : List UInt8), Lib.join (spla c acc l) [c] = acc ++ l
  | [], acc => by simp [spla, Lib.join_one]
  | x :: r, acc => by
    unfold spla
    split
    · rename_i h
      subst h
      have h := spla_join x r []
      obtain ⟨y, q, e⟩ : ∃ y q, spla x [] r = y :: q := by
        cases hh : spla x [] r with
        | nil => exact absurd hh (spla_ne _ _ _)
        | cons y q => exact ⟨y, q, rfl⟩
      rw [e] at h ⊢
      rw [Lib.join_cons] at h ⊢
      simp only [Lib.joinTail, List.map_cons, List.flatten_cons, List.nil_append] at h ⊢
      rw [← h]
      simp
    · rw [spla_join c r]
      simp
theorem spl_join (c : UInt8) (l : List UInt8) : Lib.join (spl c l) [c] = l := by
  show Lib.join (spla c [] l) [c] = l
  rw [spla_join]
  rfl
/-- Joined, and cut again: where no piece holds the separator. -/
theorem spla_of_clean (c : UInt8) : ∀ (l acc : List UInt8), c ∉ l → spla c acc l = [acc ++ l]
  | [], acc => by simp [spla]
  | x :: r, acc => by
    intro h
    simp only [List.mem_cons, not_or] at h
    unfold spla
    rw [if_neg (fun z => h.1 z.symm), spla_of_clean c r _ h.2]
    simp
theorem spla_of_joined (c : UInt8) (r : List UInt8) : ∀ (y acc : List UInt8), c ∉ y → spla c acc (y ++ c :: r) = (acc ++ y) :: spl c r
  | [], acc => by intro _; simp [spla, spl]
  | x :: y, acc => by
    intro h
    simp only [List.mem_cons, not_or] at h
    rw [List.cons_append]
    unfold spla
    rw [if_neg (fun z => h.1 z.symm), spla_of_joined c r y _ h.2]
    simp
theorem spl_of_join (c : UInt8) : ∀ (ps : List (List UInt8)), ps ≠ [] → (∀ p ∈ ps, c ∉ p) → spl c (Lib.join ps [c]) = ps
  | [], h, _ => absurd rfl h
  | [y], _, h => by rw [Lib.join_one]; unfold spl; rw [spla_of_clean c y [] (h y (by simp))]; simp
  | y :: z :: q, _, h => by
    have ih := spl_of_join c (z :: q) (by simp) (fun p hp => h p (by simp [hp]))
    have e : Lib.join (y :: z :: q) [c] = y ++ c :: Lib.join (z :: q) [c] := by
      rw [Lib.join_cons, Lib.join_cons]
      simp [Lib.joinTail]
    rw [e]
    unfold spl
    rw [spla_of_joined c _ y [] (h y (by simp)), ih]
    simp
theorem spl_cons_eq (c : UInt8) (r : List UInt8) : spl c (c :: r) = [] :: spl c r := by simp [spl, spla]
theorem spl_cons_ne (c x : UInt8) (r : List UInt8) (h : x ≠ c) : spl c (x :: r) = (x :: (spl c r).headD []) :: (spl c r).tail := by
  show spla c [] (x :: r) = _
  unfold spla
  rw [if_neg h, spla_acc]
  simp
theorem sk_succ (sep : List UInt8) (save k : Nat) (s : List UInt8) : Lib.splitK sep save (k + 1) s = if Lib.index s sep == -1 then [s] else s.take ((Lib.index s sep).toNat + save) :: Lib.splitK sep save k (s.drop ((Lib.index s sep).toNat + sep.length)) := rfl
/-- The library's words for it. -/
theorem split_spl (c : UInt8) : ∀ (l : List UInt8), Lib.splitK [c] 0 (Lib.count l [c]) l = spl c l
  | [] => by rw [Lib.count_miss (by simp [Lib.index])]; simp [Lib.splitK, spl, spla]
  | b :: l => by
    have ih := split_spl c l
    by_cases h : b = c
    · subst h
      have hix : Lib.index (b :: l) [b] = ((0 : Nat) : Int) := by rw [Lib.index]; simp [List.isPrefixOf]
      rw [Lib.count_cons_eq, Nat.add_comm, spl_cons_eq, ← ih, sk_succ, hix]
      simp
    · have hp : ([c] : List UInt8).isPrefixOf (b :: l) = false := by simp [List.isPrefixOf, Ne.symm h]
      have hix : Lib.index (b :: l) [c] = if Lib.index l [c] == -1 then -1 else Lib.index l [c] + 1 := by rw [Lib.index, hp]; simp
      rw [Lib.count_cons_ne b c l h, spl_cons_ne c b l h, ← ih]
      by_cases hm : Lib.index l [c] = -1
      · rw [Lib.count_miss hm]
        simp [Lib.splitK]
      · have hge := Lib.index_ge l [c]
        obtain ⟨j, hj⟩ : ∃ j : Nat, Lib.index l [c] = j := ⟨(Lib.index l [c]).toNat, by omega⟩
        have hc := Lib.count_hit (by simp) hj
        rw [hc, Nat.add_comm]
        have hn : ¬ ((j : Int) == -1) = true := fun e => by have := beq_iff_eq.1 e; omega
        have hn2 : ¬ ((j : Int) + 1 == -1) = true := fun e => by have := beq_iff_eq.1 e; omega
        rw [sk_succ, sk_succ, hix, hj, if_neg hn, if_neg hn, if_neg hn2]
        have e1 : ((j : Int) + 1).toNat = j + 1 := by omega
        simp [e1]
theorem splitB_spl (c : UInt8) (s : ByteArray) : (Lib.splitB ⟨#[c]⟩ 0 (Lib.countB s ⟨#[c]⟩) s).map (·.data.toList) = spl c s.data.toList := by
  rw [Lib.splitB_data]
  exact split_spl c s.data.toList
theorem splitB_bs (c : UInt8) (s : ByteArray) : Lib.splitB ⟨#[c]⟩ 0 (Lib.countB s ⟨#[c]⟩) s = (spl c s.data.toList).map bs := by
  rw [← splitB_spl, List.map_map]
  conv => lhs; rw [← List.map_id (Lib.splitB ⟨#[c]⟩ 0 (Lib.countB s ⟨#[c]⟩) s)]
  apply List.map_congr_left
  intro x _
  exact (bs_of x).symm
theorem splitB_count (c : UInt8) (s : ByteArray) : Lib.countB s ⟨#[c]⟩ + 1 = (spl c s.data.toList).length := by
  have := Lib.splitB_all ⟨#[c]⟩ (by simp [ByteArray.size]) 0 _ s rfl
  rw [splitB_bs, List.length_map] at this
  exact this.symm
/-! Decimal numerals. -/
/-- The number with a canonical numeral. -/
def canon (l : List UInt8) : Option Int :=
  match Lib.atoiAll l with
  | .ok v => if Lib.itoa v = l then some v else none
  | _ => none
theorem ofn (u : Nat) (h : u < 10) : (UInt8.ofNat (48 + u)).toNat = 48 + u := by simp only [UInt8.toNat_ofNat']; omega
theorem dig_le : ∀ (u : Nat) (x : UInt8), x ∈ Lib.decDigits u → 48 ≤ x.toNat ∧ x.toNat ≤ 57 := by
  intro u
  induction u using Nat.strongRecOn with
  | _ u ih =>
    intro x hx
    rw [Lib.decDigits] at hx
    split at hx
    · rw [List.mem_singleton] at hx; subst hx; have := ofn u (by omega); omega
    · rename_i h
      rcases List.mem_append.1 hx with hx | hx
      · exact ih (u / 10) (by omega) x hx
      · rw [List.mem_singleton] at hx; subst hx; have := ofn (u % 10) (by omega); omega
theorem dig_ne (u : Nat) : Lib.decDigits u ≠ [] := by
  rw [Lib.decDigits]
  split <;> simp
theorem pu_snoc (c : UInt8) (h : 48 ≤ c.toNat ∧ c.toNat ≤ 57) : ∀ (l : List UInt8) (acc a : Nat), Lib.parseUint10 acc l = .ok a → a * 10 + (c.toNat - 48) < 18446744073709551616 → Lib.parseUint10 acc (l ++ [c]) = .ok (a * 10 + (c.toNat - 48))
  | [], acc, a, h1, h2 => by
    simp only [Lib.parseUint10, Lib.NumEnd.ok.injEq] at h1
    subst h1
    simp only [List.nil_append, Lib.parseUint10]
    rw [if_pos h, if_neg (by omega), if_neg (by omega)]
  | x :: r, acc, a, h1, h2 => by
    simp only [List.cons_append, Lib.parseUint10] at h1 ⊢
    split at h1
    · rename_i hx
      rw [if_pos hx]
      split at h1
      · cases h1
      · rename_i hy
        rw [if_neg hy]
        split at h1
        · cases h1
        · rename_i hz
          rw [if_neg hz]
          exact pu_snoc c h r _ a h1 h2
    · cases h1
theorem pu_dig : ∀ (u : Nat), u < 18446744073709551616 → Lib.parseUint10 0 (Lib.decDigits u) = .ok u := by
  intro u
  induction u using Nat.strongRecOn with
  | _ u ih =>
    intro hu
    rw [Lib.decDigits]
    split
    · rename_i h
      have e := ofn u h
      simp only [Lib.parseUint10, e]
      rw [if_pos (by omega), if_neg (by omega), if_neg (by omega)]
      congr 1
      omega
    · rename_i h
      have e : (UInt8.ofNat (48 + u % 10)).toNat = 48 + u % 10 := ofn _ (by omega)
      have := pu_snoc (UInt8.ofNat (48 + u % 10)) (by rw [e]; omega) _ 0 (u / 10) (ih (u / 10) (by omega) (by omega)) (by rw [e]; omega)
      rw [this, e]
      congr 1
      omega
theorem pm_dig (u : Nat) (hu : u < 18446744073709551616) : Lib.parseMag (Lib.decDigits u) = .ok u := by
  unfold Lib.parseMag
  rw [if_neg (dig_ne u), pu_dig u hu]
theorem atoi_itoa (v : Int) (h0 : -9223372036854775808 ≤ v) (h1 : v ≤ 9223372036854775807) : Lib.atoiAll (Lib.itoa v) = .ok v := by
  unfold Lib.itoa
  split
  · rename_i h
    unfold Lib.atoiAll
    simp only
    have e : (45 : UInt8).toNat = 45 := rfl
    rw [if_pos (by rw [e]; omega), pm_dig _ (by omega)]
    simp only [e]
    rw [if_neg (by simp), if_neg (by omega), if_pos trivial]
    congr 1
    omega
  · rename_i h
    obtain ⟨c, r, e⟩ : ∃ c r, Lib.decDigits v.toNat = c :: r := by
      cases hh : Lib.decDigits v.toNat with
      | nil => exact absurd hh (dig_ne _)
      | cons c r => exact ⟨c, r, rfl⟩
    have hc := dig_le v.toNat c (by rw [e]; simp)
    have hp := pm_dig v.toNat (by omega)
    rw [e] at hp ⊢
    unfold Lib.atoiAll
    simp only
    rw [if_neg (by omega), hp]
    simp only
    rw [if_neg (by omega), if_neg (by omega), if_neg (by omega)]
    congr 1
    omega
theorem canon_itoa (v : Int) (h0 : -9223372036854775808 ≤ v) (h1 : v ≤ 9223372036854775807) : canon (Lib.itoa v) = some v := by
  unfold canon
  rw [atoi_itoa v h0 h1]
  simp
theorem canon_some {l : List UInt8} {v : Int} (h : canon l = some v) : l = Lib.itoa v ∧ -9223372036854775808 ≤ v ∧ v ≤ 9223372036854775807 := by
  unfold canon at h
  cases hh : Lib.atoiAll l
  · rename_i u
    rw [hh] at h
    simp only at h
    split at h
    · rename_i e
      obtain rfl := Option.some.inj h
      exact ⟨e.symm, Lib.atoiAll_bounds hh⟩
    · cases h
  · rw [hh] at h; cases h
  · rw [hh] at h; cases h
/-- No separator of the texts stands in a numeral, but for '-'. -/
theorem itoa_mem (v : Int) (x : UInt8) (h : x ∈ Lib.itoa v) : (x = 45 ∧ v < 0) ∨ (48 ≤ x.toNat ∧ x.toNat ≤ 57) := by
  unfold Lib.itoa at h
  split at h
  · rename_i hv
    rcases List.mem_cons.1 h with rfl | h
    · exact .inl ⟨rfl, hv⟩
    · exact .inr (dig_le _ _ h)
  · exact .inr (dig_le _ _ h)
theorem itoa_no (v : Int) (c : UInt8) (h1 : ¬ (48 ≤ c.toNat ∧ c.toNat ≤ 57)) (h2 : c ≠ 45 ∨ 0 ≤ v) : c ∉ Lib.itoa v := by
  intro h
  rcases itoa_mem v c h with ⟨e, hv⟩ | h
  · rcases h2 with h2 | h2
    · exact h2 e
    · omega
  · exact h1 h
/-- All pieces are numerals. -/
def rdN : List (List UInt8) → Option (List Int)
  | [] => some []
  | p :: r => match canon p with
    | none => none
    | some v => (rdN r).map (v :: ·)
theorem rdN_snoc (ps : List (List UInt8)) (ns : List Int) (p : List UInt8) (v : Int) (h : rdN ps = some ns) (hp : canon p = some v) : rdN (ps ++ [p]) = some (ns ++ [v]) := by
  induction ps generalizing ns with
  | nil => simp only [rdN, Option.some.injEq] at h; subst h; simp [rdN, hp]
  | cons q r ih =>
    simp only [rdN, List.cons_append] at h ⊢
    cases hq : canon q with
    | none => rw [hq] at h; cases h
    | some u =>
      rw [hq] at h
      simp only [Option.map_eq_some_iff] at h
      obtain ⟨m, hm, rfl⟩ := h
      rw [ih m hm]
      simp
theorem rdN_none_at (ps qs : List (List UInt8)) (p : List UInt8) (hp : canon p = none) : rdN (ps ++ p :: qs) = none := by
  induction ps with
  | nil => simp [rdN, hp]
  | cons q r ih =>
    simp only [rdN, List.cons_append]
    rw [ih]
    cases canon q <;> rfl
theorem rdN_len {ps : List (List UInt8)} {ns : List Int} (h : rdN ps = some ns) : ns.length = ps.length := by
  induction ps generalizing ns with
  | nil => simp only [rdN, Option.some.injEq] at h; subst h; rfl
  | cons q r ih =>
    simp only [rdN] at h
    cases hq : canon q with
    | none => rw [hq] at h; cases h
    | some u =>
      rw [hq] at h
      simp only [Option.map_eq_some_iff] at h
      obtain ⟨m, hm, rfl⟩ := h
      simp [ih hm]
theorem rdN_two {ps : List (List UInt8)} {a b : Int} (h : rdN ps = some [a, b]) : ps = [Lib.itoa a, Lib.itoa b] ∧ (-9223372036854775808 ≤ a ∧ a ≤ 9223372036854775807) ∧ (-9223372036854775808 ≤ b ∧ b ≤ 9223372036854775807) := by
  have hl := rdN_len h
  match ps, hl with
  | [p, q], _ =>
    simp only [rdN] at h
    cases hp : canon p with
    | none => rw [hp] at h; cases h
    | some u =>
      rw [hp] at h
      cases hq : canon q with
      | none => rw [hq] at h; cases h
      | some v =>
        rw [hq] at h
        simp at h
        obtain ⟨rfl, rfl⟩ := h
        obtain ⟨rfl, h1⟩ := canon_some hp
        obtain ⟨rfl, h2⟩ := canon_some hq
        exact ⟨rfl, h1, h2⟩
theorem rdN_pair (a b : Int) (ha : -9223372036854775808 ≤ a ∧ a ≤ 9223372036854775807) (hb : -9223372036854775808 ≤ b ∧ b ≤ 9223372036854775807) : rdN [Lib.itoa a, Lib.itoa b] = some [a, b] := by
  simp [rdN, canon_itoa a ha.1 ha.2, canon_itoa b hb.1 hb.2]
end Go.Proofs.YtaoejhikigljeaaGreatDoor.Tx
