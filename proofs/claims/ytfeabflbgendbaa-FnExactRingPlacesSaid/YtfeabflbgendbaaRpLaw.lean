/- The law RingPlaces, walked by hand. -/
import Derived.Test.YtfeabflbgendbaaRpMs
namespace Go.Proofs.Ytfeabflbgendbaa.OFnExactRingPlaces
open Go.RowKit Go.Proofs.YtfeabflbgendbaaW.PrintWords Go.Proofs.YtfeabflbgendbaaW.PrintLast Go.Proofs.YtfeabflbgendbaaW.PrintMore
set_option linter.unusedVariables false
set_option linter.unusedSimpArgs false
/-- What the law keeps while it calls: its boxes, the reference's rows, the program's rows. -/
def SB (w : World) (b : Nat) (v7 : Value) (rs : List (List Int)) (W : World) : Prop := Below w.heap.size w W ∧ Kd.S (Kd.slice 3 (Kd.int .i64)) 38 W 0 (fun kk => kk < b) v7 rs
def SC (w : World) (b : Nat) (v7 : Value) (rs : List (List Int)) (c : Nat) (v9 : Value) (ms : List (List Int)) (gs : List Nat) (W : World) : Prop := SB w b v7 rs W ∧ RZ c W v9 ms gs
def CZ (w : World) (p s p' s' : Int) (W : World) : Prop := W.cell? ⟨w.heap.size, 0, none⟩ = some (.int .i64 p) ∧ W.cell? ⟨w.heap.size, 1, none⟩ = some (.int .i64 s) ∧ W.cell? ⟨w.heap.size + 1, 0, none⟩ = some (.int .i64 p') ∧ W.cell? ⟨w.heap.size + 1, 1, none⟩ = some (.int .i64 s')
theorem CZ.step {w W W' : World} {p s p' s' : Int} (h : CZ w p s p' s' W) (hb : Below W.heap.size W W') : CZ w p s p' s' W' := by
  have kc : ∀ p v, W.cell? p = some v → W'.cell? p = some v := fun p v h => (hb.cell (World.block_lt_of_cell? W _ h)).trans h
  exact ⟨kc _ _ h.1, kc _ _ h.2.1, kc _ _ h.2.2.1, kc _ _ h.2.2.2⟩
theorem CZ.kept {w W W' : World} {p s p' s' : Int} {S : Nat → Prop} (h : CZ w p s p' s' W) (hk : Kept W W' S) (h1 : ¬ S w.heap.size) (h2 : ¬ S (w.heap.size + 1)) : CZ w p s p' s' W' :=
  ⟨cell_kept h.1 hk h1, cell_kept h.2.1 hk h1, cell_kept h.2.2.1 hk h2, cell_kept h.2.2.2 hk h2⟩
theorem SB.step {w W W' : World} {b : Nat} {v7 : Value} {rs : List (List Int)} (h : SB w b v7 rs W) (hb : Below W.heap.size W W') : SB w b v7 rs W' := ⟨h.1.trans (hb.mono h.1.size), Kd.S_below h.2 hb⟩
theorem SB.keep {w W W' : World} {b : Nat} {v7 : Value} {rs : List (List Int)} {p s p' s' : Int} (h : SB w b v7 rs W ∧ CZ w p s p' s' W) (hb : Below W.heap.size W W') : SB w b v7 rs W' ∧ CZ w p s p' s' W' := ⟨h.1.step hb, h.2.step hb⟩
theorem SC.step {w W W' : World} {b : Nat} {v7 : Value} {rs : List (List Int)} {c : Nat} {v9 : Value} {ms : List (List Int)} {gs : List Nat} (h : SC w b v7 rs c v9 ms gs W) (hb : Below W.heap.size W W') : SC w b v7 rs c v9 ms gs W' := ⟨h.1.step hb, h.2.below hb⟩
theorem SC.keep {w W W' : World} {b : Nat} {v7 : Value} {rs : List (List Int)} {c : Nat} {v9 : Value} {ms : List (List Int)} {gs : List Nat} {p s p' s' : Int} (h : SC w b v7 rs c v9 ms gs W ∧ CZ w p s p' s' W) (hb : Below W.heap.size W W') : SC w b v7 rs c v9 ms gs W' ∧ CZ w p s p' s' W' := ⟨h.1.step hb, h.2.step hb⟩
theorem SB.b {w W : World} {b : Nat} {v7 : Value} {rs : List (List Int)} (h : SB w b v7 rs W) : Below w.heap.size w W := h.1
theorem SB.s {w W : World} {b : Nat} {v7 : Value} {rs : List (List Int)} (h : SB w b v7 rs W) : Kd.S (Kd.slice 3 (Kd.int .i64)) 38 W 0 (fun kk => kk < b) v7 rs := h.2
theorem SC.sb {w W : World} {b : Nat} {v7 : Value} {rs : List (List Int)} {c : Nat} {v9 : Value} {ms : List (List Int)} {gs : List Nat} (h : SC w b v7 rs c v9 ms gs W) : SB w b v7 rs W := h.1
theorem SC.rz {w W : World} {b : Nat} {v7 : Value} {rs : List (List Int)} {c : Nat} {v9 : Value} {ms : List (List Int)} {gs : List Nat} (h : SC w b v7 rs c v9 ms gs W) : RZ c W v9 ms gs := h.2
theorem heldM (k : Nat) (A : Option Addr) (c : Nat) (rs : List (List Int)) (tm : Int) (w : World) (h : rs.length ≤ c ∧ Kd.C (Kd.slice 3 (Kd.int .i64)) w A (mkTo rs rs.length).length (mkTo rs rs.length)) (h38 : laws_heldIntSS.f k (mkTo rs rs.length) 1 = some (1 + 2 * (rs.length : Int))) (ht : 1 + 2 * (rs.length : Int) = tm) :
    Calls Try.prog 38 #[.slice A rs.length c, .int .i64 1] w fun e w' => e = .returned (.int .i64 tm) ∧ Drawn0 w w' := by
  have := laws_heldIntSS.calls k A c (mkTo rs rs.length) 1 _ w h.2 (by rw [mkTo_len]; exact h.1) h38
  rw [mkTo_len, ht] at this
  exact this
set_option maxHeartbeats 8000000 in
set_option maxRecDepth 100000 in
theorem law11.calls (k : Nat) (a0 p s p' s' : Int) (rs : List (List Int)) (ok : Bool) (w : World) (h18 : laws_toWalker.f p s = some (p, s)) (h18' : laws_toWalker.f p' s' = some (p', s')) (h39 : spec_RingPlaces.f k a0 p s p' s' = some (rs, ok))
    (h40 : ∀ W : World, Calls Try.prog 40 #[.int .i64 a0, .agg #[.int .i64 p, .int .i64 s], .agg #[.int .i64 p', .int .i64 s']] W fun e w' => ∃ v, e = .returned (.tuple #[v, .bool ok]) ∧ RRx W w' v rs)
    (h36 : laws_eqIntSS.f k rs rs = some true) (hlen : rs.length ≤ 1000)
    (h26 : ∀ r c, r.length = 2 → 0 ≤ c → c ≤ 100000 → laws_markIntS.f k r c = some (c + 2, [c, c + 1])) (h38 : laws_heldIntSS.f k (mkTo rs rs.length) 1 = some (1 + 2 * (rs.length : Int))) :
    Calls Try.prog 11 #[.int .i64 a0, .agg #[.int .i64 p, .int .i64 s], .agg #[.int .i64 p', .int .i64 s']] w fun e w' => e = .returned (.bool true) ∧ Below w.heap.size w w' := by
  have H18 := Aside0.mk h18
  have H18' := Aside0.mk h18'
  have H39 := Aside0.mk h39
  have H40 := Aside0.mk h40
  have H36 := Aside0.mk h36
  have H26 := Aside0.mk h26
  have H38 := Aside0.mk h38
  have HLN := Aside0.mk hlen
  have hu30 := Try.underlying30
  have hu33 := Try.underlying33
  have mixed : Try.prog.follows .mixedOrders = true := by kernel_rfl
  clear h18 h18' h39 h40 h36 h26 h38 hlen
  obtain ⟨tm, htm⟩ : ∃ tm : Int, 1 + 2 * (rs.length : Int) = tm := ⟨_, rfl⟩
  have htm0 : ¬ tm < 0 := by omega
  have dtm : decide (tm < 0) = false := decide_eq_false htm0
  have HTM := Aside0.mk htm
  clear htm
  have BX0 : Aside0 (Bz w ((w.alloc (.cells #[.int .i64 p, .int .i64 s] 30)).alloc (.cells #[.int .i64 p', .int .i64 s'] 30)) p s p' s') := ⟨Bz.start w p s p' s' 30⟩
  go_enter Try.func11, Try.ntmps11
  go_wp2_with fail
  go_region_held3 (fun w' => Below w.heap.size w w' ∧ w'.cell? ⟨w.heap.size, 0, none⟩ = some (.int .i64 p) ∧ w'.cell? ⟨w.heap.size, 1, none⟩ = some (.int .i64 s) ∧ w'.cell? ⟨w.heap.size + 1, 0, none⟩ = some (.int .i64 p') ∧ w'.cell? ⟨w.heap.size + 1, 1, none⟩ = some (.int .i64 s'))
    (first | exact Bz.step (by first | assumption | exact BX0.out) (by first | assumption | exact below_drew1 (Below.refl _ _)))
    (first | (go_at_call 18; (with_reducible refine (laws_toWalker.calls p s p s _ H18.out).mono ?_); rintro e w' ⟨rfl, hb'⟩) | (go_at_call 18; (with_reducible refine (laws_toWalker.calls p' s' p' s' _ H18'.out).mono ?_); rintro e w' ⟨rfl, hb'⟩) | (go_at_call 39; (with_reducible refine (spec_RingPlaces.calls k a0 p s p' s' rs ok _ H39.out).mono ?_); rintro e w' ⟨v7, rfl, hS7, hb'⟩))
  rename_i hH
  obtain ⟨A7, c7, e7⟩ := Kd.S_slice hS7
  subst e7
  obtain ⟨w3, hw3⟩ : ∃ w3, w' = w3 := ⟨_, rfl⟩
  subst hw3
  have HK1 := Aside0.mk (show SB w w'.heap.size (.slice A7 rs.length c7) rs w' ∧ CZ w p s p' s' w' from ⟨⟨hH.1, Kd.S_mono (Kd.S_bound (Kd.S_lower hS7 (Nat.zero_le _))) (fun kk h => h.2.2.1)⟩, hH.2⟩)
  obtain ⟨b3, hb3⟩ : ∃ b, w'.heap.size = b := ⟨_, rfl⟩
  rw [hb3] at HK1
  have HB3 := Aside0.mk (show w.heap.size + 2 ≤ w'.heap.size from by have := World.block_lt_of_cell? _ _ hH.2.2.2.1; simp at this; omega)
  clear hH hS7 hb' BX0
  go_wp2_with fail
  go_region_held3 (fun w' => SB w b3 (.slice A7 rs.length c7) rs w' ∧ w'.cell? ⟨w.heap.size, 0, none⟩ = some (.int .i64 p) ∧ w'.cell? ⟨w.heap.size, 1, none⟩ = some (.int .i64 s) ∧ w'.cell? ⟨w.heap.size + 1, 0, none⟩ = some (.int .i64 p') ∧ w'.cell? ⟨w.heap.size + 1, 1, none⟩ = some (.int .i64 s'))
    (first | exact SB.keep (by first | assumption | exact HK1.out) (by first | assumption | exact below_drew1 (Below.refl _ _)))
    (first | (go_at_call 18; (with_reducible refine (laws_toWalker.calls p s p s _ H18.out).mono ?_); rintro e w' ⟨rfl, hb'⟩) | (go_at_call 18; (with_reducible refine (laws_toWalker.calls p' s' p' s' _ H18'.out).mono ?_); rintro e w' ⟨rfl, hb'⟩) | (go_at_call 40; (with_reducible refine (H40.out _).mono ?_); rintro e w' ⟨v9, rfl, hR9⟩; have hb' := hR9.choose_spec.1))
  rename_i W4 hb4 W5 hb5 hH
  have L5 : b3 ≤ W5.heap.size := by rw [← hb3]; exact Nat.le_trans hb4.size hb5.size
  obtain ⟨gs, hRZ⟩ := hR9.RZ
  obtain ⟨A9, c9, e9⟩ := Kd.R_slice hRZ.R
  subst e9
  have HK2 := Aside0.mk (show SC w b3 (.slice A7 rs.length c7) rs W5.heap.size (.slice A9 rs.length c9) rs gs w' ∧ CZ w p s p' s' w' from ⟨⟨hH.1, hRZ⟩, hH.2⟩)
  obtain ⟨c5, hc5⟩ : ∃ c, W5.heap.size = c := ⟨_, rfl⟩
  rw [hc5] at HK2 L5
  have L35 := Aside0.mk L5
  have HB3' := HB3.out
  rw [hb3] at HB3'
  have HB4 := Aside0.mk HB3'
  clear hR9 hb' hb4 hb5 hH hRZ L5 hc5 hb3 HB3 HB3' HK1
  go_wp2_with (first
    | (go_at_call 36; (with_reducible refine (laws_eqIntSS.calls k _ _ rs _ _ rs true _ (Kd.R_reads' HK2.out.1.rz.R).2.2 (Kd.R_reads' HK2.out.1.rz.R).2.1 (Kd.S_reads' HK2.out.1.sb.s).2.2 (Kd.S_reads' HK2.out.1.sb.s).2.1 H36.out).mono ?_); rintro e W6 ⟨rfl, hd⟩; have HK3 := Aside0.mk (SC.keep HK2.out hd.below); clear hd HK2)
    | (go_at_call 37; (with_reducible refine (markSS.calls k c5 w _ _ rs gs HK3.out.1.sb.b HK3.out.1.rz (by have := L35.out; have := HB4.out; omega) HLN.out H26.out).mono ?_); rintro e W7 ⟨rfl, hR, hb, hk⟩; rw [HTM.out]; have HK4 := Aside0.mk (show SC w b3 (.slice A7 rs.length c7) rs c5 (.slice A9 rs.length c9) (mkTo rs rs.length) gs W7 ∧ CZ w p s p' s' W7 from ⟨⟨⟨hb, Kd.S_kept HK3.out.1.sb.s hk (fun kk h1 h2 => by have := L35.out; omega)⟩, hR⟩, HK3.out.2.kept hk (by have := L35.out; have := HB4.out; omega) (by have := L35.out; have := HB4.out; omega)⟩); clear hR hb hk HK3)
    | (go_at_call 38; (with_reducible refine (heldM k _ _ rs tm _ (Kd.R_reads' HK4.out.1.rz.R).2 H38.out HTM.out).mono ?_); rintro e W8 ⟨rfl, hd⟩; have HK5 := Aside0.mk (SC.keep HK4.out hd.below); clear hd HK4))
  go_region_held3 (fun w' => SC w b3 (.slice A7 rs.length c7) rs c5 (.slice A9 rs.length c9) (mkTo rs rs.length) gs w' ∧ w'.cell? ⟨w.heap.size, 0, none⟩ = some (.int .i64 p) ∧ w'.cell? ⟨w.heap.size, 1, none⟩ = some (.int .i64 s) ∧ w'.cell? ⟨w.heap.size + 1, 0, none⟩ = some (.int .i64 p') ∧ w'.cell? ⟨w.heap.size + 1, 1, none⟩ = some (.int .i64 s'))
    (first | exact SC.keep (by first | assumption | exact HK5.out) (by first | assumption | exact below_drew1 (Below.refl _ _)))
    (first | (go_at_call 18; (with_reducible refine (laws_toWalker.calls p s p s _ H18.out).mono ?_); rintro e w' ⟨rfl, hb'⟩) | (go_at_call 18; (with_reducible refine (laws_toWalker.calls p' s' p' s' _ H18'.out).mono ?_); rintro e w' ⟨rfl, hb'⟩) | (go_at_call 40; (with_reducible refine (H40.out _).mono ?_); rintro e w' ⟨v13, rfl, hR13⟩; have hb' := hR13.choose_spec.1))
  rename_i W9 hb9 W10 hb10 hH
  obtain ⟨hs, hRZ⟩ := hR13.RZ
  obtain ⟨A13, c13, e13⟩ := Kd.R_slice hRZ.R
  subst e13
  have HR13 := Aside0.mk hRZ
  have HK6 := Aside0.mk (show SC w b3 (.slice A7 rs.length c7) rs c5 (.slice A9 rs.length c9) (mkTo rs rs.length) gs w' ∧ CZ w p s p' s' w' from hH)
  clear hR13 hb' hb9 hb10 hH hRZ HK5
  go_wp2_with (first
    | (go_at_call 36; (with_reducible refine (laws_eqIntSS.calls k _ _ rs _ _ rs true _ (Kd.R_reads' HR13.out.R).2.2 (Kd.R_reads' HR13.out.R).2.1 (Kd.S_reads' HK6.out.1.sb.s).2.2 (Kd.S_reads' HK6.out.1.sb.s).2.1 H36.out).mono ?_); rintro e W11 ⟨rfl, hd⟩; have HK7 := Aside0.mk (SC.keep HK6.out hd.below); clear hd HK6)
    | (go_at_call 38; (with_reducible refine (heldM k _ _ rs tm _ (Kd.R_reads' HK7.out.1.rz.R).2 H38.out HTM.out).mono ?_); rintro e W12 ⟨rfl, hd⟩; have HK8 := Aside0.mk (SC.keep HK7.out hd.below); clear hd HK7))
  go_ret
  exact ⟨rfl, HK8.out.1.sb.b⟩
end Go.Proofs.Ytfeabflbgendbaa.OFnExactRingPlaces
