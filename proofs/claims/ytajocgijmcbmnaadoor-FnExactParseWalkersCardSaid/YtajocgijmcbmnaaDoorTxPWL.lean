/- The law ParseWalkers, walked by hand. -/
import Derived.Test.YtajocgijmcbmnaaDoorTxPW
namespace Go.Proofs.YtajocgijmcbmnaaDoor.OFnExactParseWalkers
open Go.RowKit Go.Proofs.YtajocgijmcbmnaaDoorW.PrintWords Go.Proofs.YtajocgijmcbmnaaDoorW.PrintLast Go.Proofs.YtajocgijmcbmnaaDoorW.PrintMore
set_option linter.unusedVariables false
set_option linter.unusedSimpArgs false
open Go.Proofs.YtajocgijmcbmnaaDoor.Tx
set_option maxHeartbeats 8000000 in
set_option maxRecDepth 100000 in
theorem lawPW.big (s : ByteArray) (w : World) (h1 : (s.size : Int) > 1048576) (hsz : s.size ≤ 140737488351232) :
    Calls Tryd.prog 4 #[.string s] w fun e w' => e = .returned (.bool true) ∧ Below w.heap.size w w' := by
  have d1 : decide ((1048576 : Int) < (s.size : Int)) = true := decide_eq_true h1
  have d2 : decide (1048576 < s.size) = true := decide_eq_true (by omega)
  clear h1
  go_enter Tryd.func4, Tryd.ntmps4
  go_wp2_with fail
  go_ret
  exact ⟨rfl, Below.refl _ _⟩
theorem held2 (k : Nat) (A : Option Addr) (c : Nat) (l m : List S37) (tm : Int) (w : World) (hml : m.length = l.length) (h : ∃ A' c', (Value.slice A l.length c) = .slice A' m.length c' ∧ m.length ≤ c' ∧ Kd.C k37 w A' m.length m) (hh : laws_heldWalkerS.f k m 1 = some tm) :
    Calls Tryd.prog 13 #[.slice A l.length c, .int .i64 1] w fun e w' => e = .returned (.int .i64 tm) ∧ Drawn0 w w' := by
  obtain ⟨A', c', e, hc, hC⟩ := h
  rw [e]
  exact laws_heldWalkerS.calls k A' c' m 1 tm w hC hc hh
set_option maxHeartbeats 8000000 in
set_option maxRecDepth 100000 in
theorem lawPW.calls (k : Nat) (s : ByteArray) (w : World) (hs : (s.size : Int) ≤ 1048576) (l : List S37) (ok : Bool) (hsp : spec_ParseWalkers.f k s = some (l, ok))
    (him : ∀ W : World, T2 W → Calls Tryd.prog 11 #[.string s] W (PwPost l ok W)) (heq : laws_eqWalkerS.f k l l = some true)
    (tm : Int) (htm : ¬ tm < 0) (m : List S37) (hml : m.length = l.length) (hmk : laws_markWalkerS.f k l 1 = some (tm, m)) (hhd : laws_heldWalkerS.f k m 1 = some tm) (ht : T2 w) :
    Calls Tryd.prog 4 #[.string s] w fun e w' => e = .returned (.bool true) ∧ Below w.heap.size w w' := by
  have d1 : decide ((1048576 : Int) < (s.size : Int)) = false := decide_eq_false (by omega)
  have d2 : decide (1048576 < s.size) = false := decide_eq_false (by omega)
  have d3 : decide (tm < 0) = false := decide_eq_false htm
  have HSP := Aside0.mk hsp
  have HIM := Aside0.mk him
  have HEQ := Aside0.mk heq
  have HMK := Aside0.mk hmk
  have HHD := Aside0.mk hhd
  have HML := Aside0.mk hml
  have HT := Aside0.mk ht
  have tok0 : True := trivial
  have tok1 : True := trivial
  have tok2 : True := trivial
  have hsz : s.size ≤ 1048576 := by omega
  clear hsp him heq hmk hhd hml ht hs
  go_enter Tryd.func4, Tryd.ntmps4
  go_wp2_with (first
    | (go_at_call 10; (with_reducible refine (spec_ParseWalkers.calls k s l ok _ HSP.out).mono ?_); rintro e w1 ⟨v1, rfl, hR, hb⟩; obtain ⟨A1, c1, e1⟩ := Kd.R_slice hR; subst e1; have B1 := Aside0.mk hb; have X1 := Aside0.mk (Kd.R_bound hR); clear hR hb)
    | (go_at_call 11; have tk := tok0; (with_reducible refine (HIM.out _ (HT.out.step B1.out)).mono ?_); rintro e w2 ⟨v2, rfl, hR, hb⟩; obtain ⟨A2, c2, e2⟩ := Kd.R_slice hR; subst e2; have B12 := Aside0.mk hb; have Y2 := Aside0.mk (Kd.R_mono (Kd.R_bound hR) (fun kk h => h.2.1)); have X2 := Aside0.mk (Kd.R_below X1.out hb); clear hR hb tok0 tk)
    | (go_at_call 9; have tk := tok1; (with_reducible refine (laws_eqWalkerS.calls k A2 c2 l A1 c1 l true _ (Kd.R_reads' Y2.out).2.2 (Kd.R_reads' Y2.out).2.1 (Kd.R_reads' X2.out).2.2 (Kd.R_reads' X2.out).2.1 HEQ.out).mono ?_); rintro e w3 ⟨rfl, hb⟩; have B13 := Aside0.mk (B12.out.trans (hb.mono B12.out.size)); have Y3 := Aside0.mk (Kd.R_below Y2.out hb); have X3 := Aside0.mk (Kd.R_below X2.out hb); clear hb tok1 tk)
    | (go_at_call 12; (with_reducible refine (laws_markWalkerS.calls k (fun kk => w1.heap.size ≤ kk) (.slice A2 l.length c2) l 1 tm m w1 _ B13.out Y3.out HMK.out).mono ?_); rintro e w4 ⟨rfl, hR, hb, hk⟩; have B14 := Aside0.mk hb; have Y4 := Aside0.mk hR; have X4 := Aside0.mk (Kd.R_kept X3.out hk (fun kk h h2 => by have := h.2.2.1; omega)); clear hR hb hk)
    | (go_at_call 13; have tk := tok2; (with_reducible refine (held2 k A2 c2 l m tm _ HML.out (Kd.R_reads Y4.out) HHD.out).mono ?_); rintro e w5 ⟨rfl, hd⟩; have B15 := Aside0.mk (B14.out.trans (hd.below.mono B14.out.size)); have Y5 := Aside0.mk (Kd.R_below Y4.out hd.below); have X5 := Aside0.mk (Kd.R_below X4.out hd.below); clear hd tok2 tk)
    | (go_at_call 11; (with_reducible refine (HIM.out _ ((HT.out.step B1.out).step B15.out)).mono ?_); rintro e w6 ⟨v6, rfl, hR, hb⟩; obtain ⟨A6, c6, e6⟩ := Kd.R_slice hR; subst e6; have B16 := Aside0.mk (B15.out.trans (hb.mono B15.out.size)); have Z6 := Aside0.mk hR; have Y6 := Aside0.mk (Kd.R_below Y5.out hb); have X6 := Aside0.mk (Kd.R_below X5.out hb); clear hR hb)
    | (go_at_call 9; (with_reducible refine (laws_eqWalkerS.calls k A6 c6 l A1 c1 l true _ (Kd.R_reads' Z6.out).2.2 (Kd.R_reads' Z6.out).2.1 (Kd.R_reads' X6.out).2.2 (Kd.R_reads' X6.out).2.1 HEQ.out).mono ?_); rintro e w7 ⟨rfl, hb⟩; have B17 := Aside0.mk (B16.out.trans (hb.mono B16.out.size)); have Y7 := Aside0.mk (Kd.R_below Y6.out hb); clear hb)
    | (go_at_call 13; (with_reducible refine (held2 k A2 c2 l m tm _ HML.out (Kd.R_reads Y7.out) HHD.out).mono ?_); rintro e w8 ⟨rfl, hd⟩; have B18 := Aside0.mk (B17.out.trans (hd.below.mono B17.out.size)); clear hd))
  go_ret
  exact ⟨rfl, B1.out.trans (B18.out.mono B1.out.size)⟩
end Go.Proofs.YtajocgijmcbmnaaDoor.OFnExactParseWalkers
