/- The law AllMeetings, walked by hand. -/
import Derived.Test.YtfeabflbgendbaaMeetWalk
namespace Go.Proofs.Ytfeabflbgendbaa.OFnExactAllMeetings
open Go.Proofs.Ytfeabflbgendbaa.SymW
open Go.RowKit Go.Proofs.YtfeabflbgendbaaW.PrintWords Go.Proofs.YtfeabflbgendbaaW.PrintLast Go.Proofs.YtfeabflbgendbaaW.PrintMore
set_option linter.unusedVariables false
set_option linter.unusedSimpArgs false
theorem RS.Rl {base : Nat} {W : World} {A : Option Addr} {n c : Nat} {rs : List (List Int)} {gs : List Nat} (h : RS base W (.slice A n c) rs gs) : Kd.R (Kd.slice 3 (Kd.int .i64)) 38 W base (fun k_ => base ≤ k_) (.slice A n c) rs := h.R
theorem heldM (k : Nat) (A : Option Addr) (c : Nat) (rs : List (List Int)) (tm : Int) (w : World) (h : rs.length ≤ c ∧ Kd.C (Kd.slice 3 (Kd.int .i64)) w A (mkTo rs rs.length).length (mkTo rs rs.length)) (h38 : laws_heldIntSS.f k (mkTo rs rs.length) 1 = some (1 + 4 * (rs.length : Int))) (ht : 1 + 4 * (rs.length : Int) = tm) :
    Calls Try.prog 38 #[.slice A rs.length c, .int .i64 1] w fun e w' => e = .returned (.int .i64 tm) ∧ Drawn0 w w' := by
  have := laws_heldIntSS.calls k A c (mkTo rs rs.length) 1 _ w h.2 (by rw [mkTo_len]; exact h.1) h38
  rw [mkTo_len, ht] at this
  exact this
set_option maxHeartbeats 8000000 in
set_option maxRecDepth 100000 in
theorem law10.calls (k : Nat) (A0 : Option Addr) (c0 : Nat) (l0 : List S30) (q cm : Int) (s mk : List S33) (rs : List (List Int)) (ok : Bool) (w : World) (hr0 : Kd.C k30 w A0 l0.length l0) (hc0 : l0.length ≤ c0)
    (h12 : laws_szWalkerS.f l0 1048576 = some q) (hq : ¬ q < 0) (h14 : laws_toWalkerS.f k l0 = some s) (h34 : spec_AllMeetings.f k s = some (rs, ok)) (h35 : impl_AllMeetings.f s = some (rs, ok)) (h36 : laws_eqIntSS.f k rs rs = some true)
    (h16 : laws_eqWalkerS.f k s s = some true) (h25 : laws_markWalkerS.f k s 1 = some (cm, mk)) (hcm : ¬ cm < 0) (hlen : rs.length ≤ 1000)
    (h26 : ∀ r c, r.length = 4 → 0 ≤ c → c ≤ 100000 → laws_markIntS.f k r c = some (c + 4, [c, c + 1, c + 2, c + 3])) (h38 : laws_heldIntSS.f k (mkTo rs rs.length) 1 = some (1 + 4 * (rs.length : Int))) :
    Calls Try.prog 10 #[.slice A0 l0.length c0] w fun e w' => e = .returned (.bool true) ∧ Below w.heap.size w w' := by
  have HA := Aside0.mk hr0
  have HC := Aside0.mk hc0
  have H12 := Aside0.mk h12
  have H14 := Aside0.mk h14
  have H34 := Aside0.mk h34
  have H35 := Aside0.mk h35
  have H36 := Aside0.mk h36
  have H16 := Aside0.mk h16
  have H25 := Aside0.mk h25
  have H26 := Aside0.mk h26
  have H38 := Aside0.mk h38
  have HL := Aside0.mk hlen
  have S0 : Aside0 True := ⟨trivial⟩
  clear hr0 hc0 h12 h14 h34 h35 h36 h16 h25 h26 h38
  have dq : decide (q < 0) = false := decide_eq_false hq
  have dcm : decide (cm < 0) = false := decide_eq_false hcm
  obtain ⟨tm, htm⟩ : ∃ tm : Int, 1 + 4 * (rs.length : Int) = tm := ⟨_, rfl⟩
  have htm0 : ¬ tm < 0 := by omega
  have dtm : decide (tm < 0) = false := decide_eq_false htm0
  have HTM := Aside0.mk htm
  clear htm
  go_enter Try.func10, Try.ntmps10
  go_wp2_with (first
    | (go_at_call 12; clear S0; (with_reducible refine (laws_szWalkerS.calls _ _ l0 1048576 q _ HA.out HC.out H12.out).mono ?_); rintro e W1 ⟨rfl, hd⟩; have B1 := Aside0.mk hd.below; clear hd; have S1 : Aside0 True := ⟨trivial⟩)
    | (go_at_call 14; clear S1; (with_reducible refine (laws_toWalkerS.calls k _ _ l0 s _ (Kd.C_below HA.out B1.out) HC.out H14.out).mono ?_); rintro e W2 ⟨v21, rfl, hR, hb⟩; obtain ⟨A21, c21, e21⟩ := Kd.R_slice hR; subst e21; have C21 := Aside0.mk (Kd.R_reads' hR).2; have B2 := Aside0.mk (B1.out.trans (hb.mono B1.out.size)); clear hR hb; have S2 : Aside0 True := ⟨trivial⟩)
    | (go_at_call 34; clear S2; (with_reducible refine (spec_AllMeetings.calls k _ _ s rs ok _ C21.out.2 C21.out.1 H34.out).mono ?_); rintro e W3 ⟨v22, rfl, hN, hb⟩; obtain ⟨A4, c4, e4⟩ := Kd.N_slice hN; subst e4; have F4 := Aside0.mk (Kd.N_mono (Kd.N_bound (Kd.N_lower hN B2.out.size)) (fun k hk => hk.2)); have B3 := Aside0.mk (B2.out.trans (hb.mono B2.out.size)); clear hN hb C21; have S3 : Aside0 True := ⟨trivial⟩)
    | (go_at_call 14; clear S3; (with_reducible refine (laws_toWalkerS.calls k _ _ l0 s _ (Kd.C_below HA.out B3.out) HC.out H14.out).mono ?_); rintro e W4 ⟨v26, rfl, hR, hb⟩; obtain ⟨A6, c6, e6⟩ := Kd.R_slice hR; subst e6; have F6 := Aside0.mk hR; have G4 := Aside0.mk (Kd.N_below F4.out hb); have B34 := Aside0.mk hb.size; have B4 := Aside0.mk (B3.out.trans (hb.mono B3.out.size)); clear hR hb F4; have S4 : Aside0 True := ⟨trivial⟩)
    | (go_at_call 35; clear S4; (with_reducible refine (impl_AllMeetings.own _ _ s rs ok _ (Kd.R_reads' F6.out).2.2 (Kd.R_reads' F6.out).2.1 H35.out).mono ?_); rintro e W5 ⟨v7, rfl, hRR⟩; obtain ⟨gs, hRS⟩ := hRR.RS; obtain ⟨A7, c7, e7⟩ := Kd.R_slice hRS.R; subst e7; have F7 := Aside0.mk hRS; have hb := hRR.choose_spec.1; have I4 := Aside0.mk (Kd.N_below G4.out hb); have I6 := Aside0.mk (Kd.R_below F6.out hb); have O6 := Aside0.mk (fun kk (hk : (Value.slice A6 s.length c6).ownBlock = some kk) => (show W3.heap.size ≤ kk ∧ kk < W4.heap.size from ⟨Kd.R_base F6.out kk hk, Kd.R_lt F6.out kk hk⟩)); have B5 := Aside0.mk (B4.out.trans (hb.mono B4.out.size)); have L45 := Aside0.mk hb.size; clear hRS hRR hb G4 F6; have S5 : Aside0 True := ⟨trivial⟩)
    | (go_at_call 36; clear S5; (with_reducible refine (laws_eqIntSS.calls k _ _ rs _ _ rs true _ (Kd.R_reads' F7.out.R).2.2 (Kd.R_reads' F7.out.R).2.1 (Kd.N_reads' I4.out).2.2 (Kd.N_reads' I4.out).2.1 H36.out).mono ?_); rintro e W6 ⟨rfl, hd⟩; have hb := hd.below; have J4 := Aside0.mk (Kd.N_below I4.out hb); have J6 := Aside0.mk (Kd.R_below I6.out hb); have J7 := Aside0.mk (F7.out.below hb); have B6 := Aside0.mk (B5.out.trans (hb.mono B5.out.size)); clear hd hb I4 I6 F7; have S6 : Aside0 True := ⟨trivial⟩)
    | (go_at_call 14; clear S6; (with_reducible refine (laws_toWalkerS.calls k _ _ l0 s _ (Kd.C_below HA.out B6.out) HC.out H14.out).mono ?_); rintro e W7 ⟨v43, rfl, hR, hb⟩; obtain ⟨A43, c43, e43⟩ := Kd.R_slice hR; subst e43; have C43 := Aside0.mk (Kd.R_reads' hR).2; have K4 := Aside0.mk (Kd.N_below J4.out hb); have K6 := Aside0.mk (Kd.R_below J6.out hb); have K7 := Aside0.mk (J7.out.below hb); have B7 := Aside0.mk (B6.out.trans (hb.mono B6.out.size)); clear hR hb J4 J6 J7; have S7 : Aside0 True := ⟨trivial⟩)
    | (go_at_call 16; clear S7; (with_reducible refine (laws_eqWalkerS.calls k _ _ s _ _ s true _ (Kd.R_reads' K6.out).2.2 (Kd.R_reads' K6.out).2.1 C43.out.2 C43.out.1 H16.out).mono ?_); rintro e W8 ⟨rfl, hd⟩; have hb : Below W7.heap.size W7 W8 := (by first | exact hd.below | exact hd); have L4 := Aside0.mk (Kd.N_below K4.out hb); have L6 := Aside0.mk (Kd.R_below K6.out hb); have L7 := Aside0.mk (K7.out.below hb); have B8 := Aside0.mk (B7.out.trans (hb.mono B7.out.size)); clear hd hb K4 K6 K7 C43; have S8 : Aside0 True := ⟨trivial⟩)
    | (go_at_call 25; clear S8; (with_reducible refine (laws_markWalkerS.calls k (fun kk => some kk = (Value.slice A6 s.length c6).ownBlock) _ s 1 cm mk w _ B8.out (Kd.R_lower (Kd.R_tight rfl L6.out) B3.out.size) H25.out).mono ?_); rintro e W9 ⟨rfl, hR9, hb9, hk9⟩; have M4 := Aside0.mk (Kd.N_kept L4.out hk9 (fun kk h1 h2 => by have := O6.out kk h2.symm; omega)); have M7 := Aside0.mk (L7.out.kept hk9 (fun kk h1 h2 => by have := O6.out kk h2.symm; omega)); have B9 := Aside0.mk hb9; clear hR9 hb9 hk9 L4 L6 L7; have S9 : Aside0 True := ⟨trivial⟩)
    | (go_at_call 36; clear S9; (with_reducible refine (laws_eqIntSS.calls k _ _ rs _ _ rs true _ (Kd.R_reads' M7.out.R).2.2 (Kd.R_reads' M7.out.R).2.1 (Kd.N_reads' M4.out).2.2 (Kd.N_reads' M4.out).2.1 H36.out).mono ?_); rintro e W10 ⟨rfl, hd⟩; have hb := hd.below; have N4 := Aside0.mk (Kd.N_below M4.out hb); have N7 := Aside0.mk (M7.out.below hb); have B10 := Aside0.mk (B9.out.trans (hb.mono B9.out.size)); clear hd hb M4 M7; have S10 : Aside0 True := ⟨trivial⟩)
    | (go_at_call 37; clear S10; (with_reducible refine (markSS.calls k _ w _ _ rs gs B10.out N7.out B4.out.size HL.out H26.out).mono ?_); rintro e W11 ⟨rfl, hR11, hb11, hk11⟩; rw [HTM.out]; have P7 := Aside0.mk hR11; have P4 := Aside0.mk (Kd.N_kept N4.out hk11 (fun kk h1 h2 => by have := B34.out; omega)); have B11 := Aside0.mk hb11; clear hR11 hb11 hk11 N4 N7; have S11 : Aside0 True := ⟨trivial⟩)
    | (go_at_call 38; clear S11; (with_reducible refine (heldM k _ _ rs tm _ (Kd.R_reads' (P7.out.Rl)).2 H38.out HTM.out).mono ?_); rintro e W12 ⟨rfl, hd⟩; have hb := hd.below; have Q4 := Aside0.mk (Kd.N_below P4.out hb); have Q7 := Aside0.mk (P7.out.below hb); have B12 := Aside0.mk (B11.out.trans (hb.mono B11.out.size)); clear hd hb P4 P7; have S12 : Aside0 True := ⟨trivial⟩)
    | (go_at_call 14; clear S12; (with_reducible refine (laws_toWalkerS.calls k _ _ l0 s _ (Kd.C_below HA.out B12.out) HC.out H14.out).mono ?_); rintro e W13 ⟨v75, rfl, hR, hb⟩; obtain ⟨A75, c75, e75⟩ := Kd.R_slice hR; subst e75; have C75 := Aside0.mk (Kd.R_reads' hR).2; have T4 := Aside0.mk (Kd.N_below Q4.out hb); have T7 := Aside0.mk (Q7.out.below hb); have B13 := Aside0.mk (B12.out.trans (hb.mono B12.out.size)); clear hR hb Q4 Q7; have S13 : Aside0 True := ⟨trivial⟩)
    | (go_at_call 35; clear S13; (with_reducible refine (impl_AllMeetings.own _ _ s rs ok _ C75.out.2 C75.out.1 H35.out).mono ?_); rintro e W14 ⟨v12, rfl, hRR⟩; obtain ⟨hs, hRS⟩ := hRR.RS; obtain ⟨A12, c12, e12⟩ := Kd.R_slice hRS.R; subst e12; have X12 := Aside0.mk hRS; have hb := hRR.choose_spec.1; have U4 := Aside0.mk (Kd.N_below T4.out hb); have U7 := Aside0.mk (T7.out.below hb); have B14 := Aside0.mk (B13.out.trans (hb.mono B13.out.size)); clear hRS hRR hb T4 T7 C75; have S14 : Aside0 True := ⟨trivial⟩)
    | (go_at_call 36; clear S14; (with_reducible refine (laws_eqIntSS.calls k _ _ rs _ _ rs true _ (Kd.R_reads' X12.out.R).2.2 (Kd.R_reads' X12.out.R).2.1 (Kd.N_reads' U4.out).2.2 (Kd.N_reads' U4.out).2.1 H36.out).mono ?_); rintro e W15 ⟨rfl, hd⟩; have hb := hd.below; have Y7 := Aside0.mk (U7.out.below hb); have B15 := Aside0.mk (B14.out.trans (hb.mono B14.out.size)); clear hd hb U4 U7; have S15 : Aside0 True := ⟨trivial⟩)
    | (go_at_call 38; clear S15; (with_reducible refine (heldM k _ _ rs tm _ (Kd.R_reads' (Y7.out.Rl)).2 H38.out HTM.out).mono ?_); rintro e W16 ⟨rfl, hd⟩; have hb := hd.below; have B16 := Aside0.mk (B15.out.trans (hb.mono B15.out.size)); clear hd hb; have S16 : Aside0 True := ⟨trivial⟩))
  go_ret
  exact ⟨rfl, B16.out⟩
set_option maxHeartbeats 8000000 in
set_option maxRecDepth 100000 in
theorem law10.big (A0 : Option Addr) (c0 : Nat) (l0 : List S30) (q : Int) (w : World) (hr0 : Kd.C k30 w A0 l0.length l0) (hc0 : l0.length ≤ c0)
    (h12 : laws_szWalkerS.f l0 1048576 = some q) (hq : q < 0) :
    Calls Try.prog 10 #[.slice A0 l0.length c0] w fun e w' => e = .returned (.bool true) ∧ Below w.heap.size w w' := by
  have HA := Aside0.mk hr0
  have HC := Aside0.mk hc0
  have H12 := Aside0.mk h12
  clear hr0 hc0 h12
  have dq : decide (q < 0) = true := decide_eq_true hq
  go_enter Try.func10, Try.ntmps10
  go_wp2_with (go_at_call 12; (with_reducible refine (laws_szWalkerS.calls _ _ l0 1048576 q _ HA.out HC.out H12.out).mono ?_); rintro e W1 ⟨rfl, hd⟩; have B1 := Aside0.mk hd.below; clear hd)
  go_ret
  exact ⟨rfl, B1.out⟩
end Go.Proofs.Ytfeabflbgendbaa.OFnExactAllMeetings
