/- Rows of two, marked, walked by hand. -/
import Derived.Test.YtfeabflbgendbaaRpPub
namespace Go.Proofs.Ytfeabflbgendbaa.OFnExactRingPlaces
open Go.RowKit Go.Proofs.YtfeabflbgendbaaW.PrintWords Go.Proofs.YtfeabflbgendbaaW.PrintLast Go.Proofs.YtfeabflbgendbaaW.PrintMore
set_option linter.unusedVariables false
set_option linter.unusedSimpArgs false
/-- v is a row of rows of four, row j in a block of its own. -/
def RZ (base : Nat) (W : World) (v : Value) (rs : List (List Int)) (gs : List Nat) : Prop :=
  gs.length = rs.length ∧ W.ownsRow base 38 1 v rs.length (gs.map fun g => .slice (some ⟨g, 0, none⟩) 2 2) ∧
    (∀ j, j < rs.length → (rs.getD j []).length = 2 ∧ W.heap[gs.getD j 0]? = some (.cells (rowC (rs.getD j [])) 3 (0, 0)) ∧ base ≤ gs.getD j 0 ∧ v.ownBlock ≠ some (gs.getD j 0)) ∧ gs.Nodup
theorem RRx.RZ {w W : World} {v : Value} {rs : List (List Int)} (h : RRx w W v rs) : ∃ gs, RZ w.heap.size W v rs gs := by
  obtain ⟨gs, h0, h1, h2, h3, h4, h5⟩ := h
  exact ⟨gs, h1, h2, h3, h4⟩
theorem RZ.below {base : Nat} {W W' : World} {v : Value} {rs : List (List Int)} {gs : List Nat} (h : RZ base W v rs gs) (hb : Below W.heap.size W W') : RZ base W' v rs gs := by
  obtain ⟨h1, h2, h3, h4⟩ := h
  exact ⟨h1, pw_own_below h2 hb, fun j hj => by obtain ⟨a, b, c, d⟩ := h3 j hj; exact ⟨a, blk_below b hb, c, d⟩, h4⟩
theorem own_kept {base n : Nat} {W W' : World} {v : Value} {xs : List Value} {S : Nat → Prop} (h : W.ownsRow base 38 1 v n xs) (hk : Kept W W' S) (hn : ∀ k, v.ownBlock = some k → ¬ S k) : W'.ownsRow base 38 1 v n xs := by
  obtain ⟨l, q⟩ := h
  refine ⟨l, q.imp id ?_⟩
  rintro ⟨g, cap, cells, rfl, hg, hh, r⟩
  exact ⟨g, cap, cells, rfl, hg, (blk_kept hh hk (hn g rfl)), r⟩
theorem RZ.kept {base : Nat} {W W' : World} {v : Value} {rs : List (List Int)} {gs : List Nat} {S : Nat → Prop} (h : RZ base W v rs gs) (hk : Kept W W' S) (hn : ∀ k, base ≤ k → ¬ S k) : RZ base W' v rs gs := by
  obtain ⟨h1, h2, h3, h4⟩ := h
  exact ⟨h1, own_kept h2 hk (fun k e => hn k (own_base h2 k e)), fun j hj => by obtain ⟨a, b, c, d⟩ := h3 j hj; exact ⟨a, blk_kept b hk (hn _ c), c, d⟩, h4⟩
theorem nodup_getD {gs : List Nat} (h4 : gs.Nodup) (i j : Nat) (hi : i < gs.length) (hj : j < gs.length) (e : gs.getD i 0 = gs.getD j 0) : i = j := by
  have p := List.pairwise_iff_getElem.1 h4
  rw [List.getD_eq_getElem?_getD, List.getD_eq_getElem?_getD, List.getElem?_eq_getElem hi, List.getElem?_eq_getElem hj, Option.getD_some, Option.getD_some] at e
  rcases Nat.lt_trichotomy i j with q | q | q
  · exact absurd e (p i j hi hj q)
  · exact q
  · exact absurd e.symm (p j i hj hi q)
theorem RZ.set {base : Nat} {W W' : World} {v : Value} {rs : List (List Int)} {gs : List Nat} (h : RZ base W v rs gs) (i : Nat) (hi : i < rs.length) (r' : List Int) (hr : r'.length = 2) (hk : Kept W W' (fun k => k = gs.getD i 0)) (hh : W'.heap[gs.getD i 0]? = some (.cells (rowC r') 3 (0, 0))) : RZ base W' v (rs.set i r') gs := by
  obtain ⟨h1, h2, h3, h4⟩ := h
  refine ⟨by rw [List.length_set, h1], by rw [List.length_set]; exact own_kept h2 hk (fun k e z => (h3 i hi).2.2.2 (by rw [e, z])), fun j hj => ?_, h4⟩
  rw [List.length_set] at hj
  by_cases z : j = i
  · subst z
    have e : (rs.set j r').getD j [] = r' := by simp [List.getD_eq_getElem?_getD, hj]
    rw [e]
    exact ⟨hr, hh, (h3 j hj).2.2⟩
  · have e : (rs.set i r').getD j [] = rs.getD j [] := by simp only [List.getD_eq_getElem?_getD]; rw [List.getElem?_set_ne (by omega)]
    rw [e]
    obtain ⟨a, b, c, d⟩ := h3 j hj
    exact ⟨a, blk_kept b hk (fun q => z (nodup_getD h4 j i (by omega) (by omega) q)), c, d⟩
theorem RZ.R {base : Nat} {W : World} {v : Value} {rs : List (List Int)} {gs : List Nat} (h : RZ base W v rs gs) : Kd.R (Kd.slice 3 (Kd.int .i64)) 38 W base (fun k_ => base ≤ k_) v rs := by
  obtain ⟨h1, h2, h3, h4⟩ := h
  have hsz : (Kd.slice 3 (Kd.int .i64)).sz = 1 := rfl
  have hsz1 : (Kd.int .i64).sz = 1 := rfl
  refine ⟨fun k hk => own_base h2 k hk, _, h2, by simp only [List.length_map, h1, hsz, Nat.mul_one], fun j p hp => ?_⟩
  have hj : j < rs.length := (List.getElem?_eq_some_iff.1 hp).1
  obtain ⟨q1, q2, q3, q4⟩ := h3 j hj
  have ep : rs.getD j [] = p := by simp [List.getD_eq_getElem?_getD, hp]
  rw [ep] at q1 q2
  refine ⟨.slice (some ⟨gs.getD j 0, 0, none⟩) p.length 2, ?_, ?_⟩
  · rw [hsz, Nat.mul_one, List.drop_eq_getElem_cons (by simp only [List.length_map]; omega)]
    have hjg : j < gs.length := by omega
    simp only [List.take_succ_cons, List.take_zero, List.getElem_map, q1, List.getD_eq_getElem?_getD, List.getElem?_eq_getElem hjg, Option.getD_some]
  · refine ⟨fun k hk => ?_, p.map (Value.int .i64), ⟨by simp [hsz1], .inr ⟨gs.getD j 0, 2, rowC p, by rw [q1], q3, q2, by omega, by unfold maxLen; omega, by simp [rowC, q1, hsz1], by simp only [rowC, q1, hsz1, Nat.mul_one, List.drop_zero]; exact List.take_of_length_le (by simp [q1])⟩⟩, ?_⟩
    · obtain rfl : gs.getD j 0 = k := by simpa [Value.ownBlock] using hk
      exact ⟨q3, fun e => q4 e.symm⟩
    · exact Kd.reps_scalar (enc := Value.int .i64) p
theorem row2_R {W : World} {g base : Nat} {r : List Int} (hr : r.length = 2) (hb : base ≤ g) (hh : W.heap[g]? = some (.cells (rowC r) 3 (0, 0))) : Kd.R (Kd.int .i64) 3 W base (fun k => k = g) (.slice (some ⟨g, 0, none⟩) 2 2) r := by
  have hsz1 : (Kd.int .i64).sz = 1 := rfl
  refine ⟨fun k hk => ?_, r.map (Value.int .i64), ⟨by simp [hsz1], .inr ⟨g, 2, rowC r, by rw [hr], hb, hh, by omega, by unfold maxLen; omega, by simp [rowC, hr, hsz1], by simp only [rowC, hr, hsz1, Nat.mul_one]; exact List.take_of_length_le (by simp [hr])⟩⟩, Kd.reps_scalar (enc := Value.int .i64) r⟩
  simpa [Value.ownBlock] using hk.symm
theorem R_row2 {W : World} {g base : Nat} {ok : Nat → Prop} {r : List Int} (h : Kd.R (Kd.int .i64) 3 W base ok (.slice (some ⟨g, 0, none⟩) 2 2) r) : r.length = 2 ∧ W.heap[g]? = some (.cells (rowC r) 3 (0, 0)) := by
  obtain ⟨h0, inner, ⟨hl, hq⟩, hr⟩ := h
  rcases hq with ⟨e, _⟩ | ⟨g', cap, cur, e, hb, hh, hn, hm, hs, ht⟩
  · cases e
  · simp only [Value.slice.injEq, Option.some.injEq, Addr.mk.injEq] at e
    obtain ⟨⟨rfl, _, _⟩, hl4, rfl⟩ := e
    have hsz1 : (Kd.int .i64).sz = 1 := rfl
    have hi := Kd.reps_encs (enc := Value.int .i64) hr
    refine ⟨hl4.symm, ?_⟩
    rw [hh]
    have : cur = rowC r := by
      apply Array.toList_inj.1
      rw [← hl4, hsz1, List.take_of_length_le (by rw [Array.length_toList, hs, hsz1]; omega)] at ht
      rw [ht, hi]; simp [rowC, encs]
    rw [this]
theorem RZ.cell {base : Nat} {W : World} {A : Option Addr} {n c : Nat} {rs : List (List Int)} {gs : List Nat} (h : RZ base W (.slice A n c) rs gs) (i : Nat) (hi : i < rs.length) : ∃ ad, A = some ad ∧ W.cell? (ad.add i) = some (.slice (some ⟨gs.getD i 0, 0, none⟩) 2 2) := by
  have hR := (Kd.R_reads' h.R).2.2
  obtain ⟨ad, cc, e, _, hK, hc0⟩ := Kd.C_get hR ([] : List Int) (i : Int) (by omega) (by omega)
  obtain ⟨h1, ⟨hl, q⟩, h3, h4⟩ := h
  rcases q with ⟨e', z⟩ | ⟨g, cap, cur, e', hb, hh, hn, hm, hs, ht⟩
  · omega
  · simp only [Value.slice.injEq] at e'
    obtain ⟨rfl, _, _⟩ := e'
    refine ⟨_, rfl, ?_⟩
    have hc : cur.toList[i]? = some (.slice (some ⟨gs.getD i 0, 0, none⟩) 2 2) := by
      have hjg : i < gs.length := by omega
      have : (cur.toList.take (rs.length * 1))[i]? = some (.slice (some ⟨gs.getD i 0, 0, none⟩) 2 2) := by
        rw [ht, List.getElem?_map, List.getElem?_eq_getElem hjg, List.getD_eq_getElem?_getD, List.getElem?_eq_getElem hjg]; rfl
      rwa [List.getElem?_take_of_lt (by omega)] at this
    have := blk_cell hh i
    have ea : (⟨g, 0, none⟩ : Addr).add i = ⟨g, i, none⟩ := by unfold Addr.add; by_cases z : i = 0 <;> simp [z]
    rw [ea, this, ← hc, Array.getElem?_toList]
def mrow (j : Nat) : List Int := [2 * (j : Int) + 1, 2 * (j : Int) + 2]
def mkTo (rs : List (List Int)) : Nat → List (List Int)
  | 0 => rs
  | i + 1 => (mkTo rs i).set i (mrow i)
theorem mkTo_len (rs : List (List Int)) (i : Nat) : (mkTo rs i).length = rs.length := by
  induction i with
  | zero => rfl
  | succ i ih => rw [mkTo, List.length_set, ih]
set_option maxHeartbeats 8000000 in
set_option maxRecDepth 100000 in
theorem markSS.calls (K base : Nat) (w0 w : World) (v : Value) (rs : List (List Int)) (gs : List Nat) (hB : Below w0.heap.size w0 w) (hRZ : RZ base w v rs gs) (hbase : w0.heap.size ≤ base) (hlen : rs.length ≤ 1000)
    (hm : ∀ r c, r.length = 2 → 0 ≤ c → c ≤ 100000 → laws_markIntS.f K r c = some (c + 2, [c, c + 1])) :
    Calls Try.prog 37 #[v, .int .i64 1] w fun e w' => e = .returned (.int .i64 (1 + 2 * (rs.length : Int))) ∧ RZ base w' v (mkTo rs rs.length) gs ∧ Below w0.heap.size w0 w' ∧ Kept w w' (fun k => base ≤ k) := by
  obtain ⟨A, c, rfl⟩ := Kd.R_slice hRZ.R
  have HR := Aside0.mk hRZ
  have HB := Aside0.mk hB
  have HM := Aside0.mk hm
  have HK := Aside0.mk (Kept.refl w (fun k => base ≤ k))
  clear hRZ hB hm
  go_enter Try.func37, Try.ntmps37
  go_wp2_with fail
  go_loopg [1, 5] (rs.length) (fun gg v1 v5 wr => ∃ (x1 x5 : Int) (i : Nat), v1 = .int .i64 x1 ∧ v5 = .int .i64 x5 ∧ Aside0 (x1 = 1 + 2 * (i : Int)) ∧ Aside0 (x5 = (i : Int)) ∧ i ≤ rs.length ∧ rs.length - i ≤ gg ∧ Aside0 (RZ base wr (.slice A rs.length c) (mkTo rs i) gs) ∧ Aside0 (Below w0.heap.size w0 wr) ∧ Aside0 (Kept w wr (fun k => base ≤ k)))
  case atStart => exact ⟨1, 0, 0, rfl, rfl, ⟨by omega⟩, ⟨by omega⟩, by omega, by omega, HR, HB, HK⟩
  case round =>
    clear HR HB HK
    obtain ⟨x1, x5, i, rfl, rfl, E1, E5, hil, hgg, R1, B1, K1⟩ := hrel
    by_cases hlt : x5 < (rs.length : Int)
    · have hi : i < rs.length := by have := E5.out; omega
      obtain ⟨ad, eA, hcell⟩ := R1.out.cell i (by rw [mkTo_len]; exact hi)
      subst eA
      have hti : x5.toNat = i := by have := E5.out; omega
      have hrow := R1.out.2.2.1 i (by rw [mkTo_len]; exact hi)
      have HSET := Aside0.mk (fun (W' : World) r' hr hk hh => R1.out.set (W' := W') i (by rw [mkTo_len]; exact hi) r' hr hk hh)
      rw [← hti] at hcell
      rw [← hti] at hrow HSET
      have HTI := Aside0.mk hti
      clear hti
      obtain ⟨g, hg⟩ : ∃ g, gs.getD x5.toNat 0 = g := ⟨_, rfl⟩
      rw [hg] at hcell hrow HSET
      clear hg
      have HROW := Aside0.mk (row2_R hrow.1 (Nat.le_trans hbase hrow.2.2.1) hrow.2.1)
      have HG := Aside0.mk hrow.2.2.1
      have HMK := Aside0.mk (HM.out _ x1 hrow.1 (by have := E1.out; omega) (by have := E1.out; omega))
      clear hrow
      have p5 : (0 : Int) ≤ x5 := by have := E5.out; omega
      go_wp2_with (go_at_call 26; (with_reducible refine (laws_markIntS.calls K (fun k => k = g) _ _ x1 _ _ w0 _ B1.out HROW.out HMK.out).mono ?_); rintro e W2 ⟨rfl, hR2, hb2, hk2⟩; have R2 := Aside0.mk hR2; have B2 := Aside0.mk hb2; have K2 := Aside0.mk hk2; clear hR2 hb2 hk2)
      go_roundg (rs.length - (i + 1))
      case measure => omega
      case rel =>
        have r4 := R_row2 R2.out
        refine ⟨_, _, i + 1, rfl, rfl, ⟨by have := E1.out; omega⟩, ⟨by have := E5.out; first | (rw [IntKind.wrap_i64]; omega) | (unfold wrap64; omega) | omega⟩, by omega, by omega, ⟨?_⟩, B2, ⟨K1.out.then_ K2.out (fun k hk => .inl (by subst hk; exact HG.out))⟩⟩
        have := HSET.out W2 _ r4.1 K2.out r4.2
        rw [HTI.out] at this
        have e : mrow i = [x1, x1 + 1] := by unfold mrow; rw [E1.out]; congr 1; omega; congr 1; omega
        rw [mkTo, e]
        exact this
    · go_wp2_with fail
      go_ret
      have e : i = rs.length := by have := E5.out; omega
      subst e
      exact ⟨by have := E1.out; subst this; rfl, R1.out, B1.out, K1.out⟩
end Go.Proofs.Ytfeabflbgendbaa.OFnExactRingPlaces
