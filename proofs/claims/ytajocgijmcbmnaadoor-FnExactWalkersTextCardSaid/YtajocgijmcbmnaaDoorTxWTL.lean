/- The law WalkersText, walked by hand. -/
import Derived.Test.YtajocgijmcbmnaaDoorTxWT
namespace Go.Proofs.YtajocgijmcbmnaaDoor.OFnExactWalkersText
open Go.RowKit Go.Proofs.YtajocgijmcbmnaaDoorW.PrintWords Go.Proofs.YtajocgijmcbmnaaDoorW.PrintLast Go.Proofs.YtajocgijmcbmnaaDoorW.PrintMore
set_option linter.unusedVariables false
set_option linter.unusedSimpArgs false
open Go.Proofs.YtajocgijmcbmnaaDoor.Tx
set_option maxHeartbeats 8000000 in
set_option maxRecDepth 100000 in
theorem lawWT.big (A0 : Option Addr) (c0 : Nat) (l0 : List S39) (w : World) (hr0 : Kd.C k39 w A0 l0.length l0) (hc0 : l0.length ≤ c0) (hsz : laws_szWalkerS.f l0 1048576 = some (-1)) :
    Calls Tryd.prog 3 #[.slice A0 l0.length c0] w fun e w' => e = .returned (.bool true) ∧ Below w.heap.size w w' := by
  have HR := Aside0.mk hr0
  have HC := Aside0.mk hc0
  have HSZ := Aside0.mk hsz
  clear hr0 hc0 hsz
  go_enter Tryd.func3, Tryd.ntmps3
  go_wp2_with (go_at_call 5; (with_reducible refine (laws_szWalkerS.calls A0 c0 l0 1048576 _ _ HR.out HC.out HSZ.out).mono ?_); rintro e w1 ⟨rfl, hd⟩; have B1 := Aside0.mk hd.below; clear hd)
  go_ret
  exact ⟨rfl, B1.out⟩
set_option maxHeartbeats 8000000 in
set_option maxRecDepth 100000 in
theorem lawWT.calls (k : Nat) (A0 : Option Addr) (c0 : Nat) (l0 : List S39) (w : World) (hr0 : Kd.C k39 w A0 l0.length l0) (hc0 : l0.length ≤ c0) (hl : (l0.length : Int) ≤ 1048576) (left : Int) (hleft : ¬ left < 0)
    (hsz : laws_szWalkerS.f l0 1048576 = some left) (m : List S37) (hto : laws_toWalkerS.f k l0 = some m) (txt : ByteArray) (ok : Bool) (hsp : spec_WalkersText.f k m = some (txt, ok))
    (him : ∀ (W : World) (A : Option Addr) (c : Nat), T1 W → Kd.C k37 W A m.length m → m.length ≤ c → Calls Tryd.prog 8 #[.slice A m.length c] W fun e w' => e = .returned (.tuple #[.string txt, .bool ok]) ∧ Below W.heap.size W w')
    (heq : laws_eqWalkerS.f k m m = some true) (ht : T1 w) :
    Calls Tryd.prog 3 #[.slice A0 l0.length c0] w fun e w' => e = .returned (.bool true) ∧ Below w.heap.size w w' := by
  have HR := Aside0.mk hr0
  have HC := Aside0.mk hc0
  have HSZ := Aside0.mk hsz
  have HTO := Aside0.mk hto
  have HSP := Aside0.mk hsp
  have HIM := Aside0.mk him
  have HEQ := Aside0.mk heq
  have HT := Aside0.mk ht
  have dl : decide (left < 0) = false := decide_eq_false hleft
  have tok0 : True := trivial
  have tok1 : True := trivial
  clear hr0 hc0 hsz hto hsp him heq ht hl
  go_enter Tryd.func3, Tryd.ntmps3
  go_wp2_with (first
    | (go_at_call 5; (with_reducible refine (laws_szWalkerS.calls A0 c0 l0 1048576 _ _ HR.out HC.out HSZ.out).mono ?_); rintro e w1 ⟨rfl, hd⟩; have B1 := Aside0.mk hd.below; have R1 := Aside0.mk (Kd.C_below HR.out B1.out); clear hd)
    | (go_at_call 7; have tk := tok0; (with_reducible refine (laws_toWalkerS.calls k A0 c0 l0 m _ R1.out HC.out HTO.out).mono ?_); rintro e w2 ⟨v2, rfl, hR, hb⟩; obtain ⟨A2, c2, e2, hc2, hC2⟩ := Kd.R_reads hR; subst e2; have B2 := Aside0.mk (B1.out.trans (hb.mono B1.out.size)); have X2 := Aside0.mk hC2; have HC2 := Aside0.mk hc2; have R2 := Aside0.mk (Kd.C_below R1.out hb); clear hR hb hc2 hC2 tok0 tk)
    | (go_at_call 6; (with_reducible refine (spec_WalkersText.calls k A2 c2 m txt ok _ X2.out HC2.out HSP.out).mono ?_); rintro e w3 ⟨rfl, hb⟩; have B3 := Aside0.mk (B2.out.trans (hb.mono B2.out.size)); have R3 := Aside0.mk (Kd.C_below R2.out hb); clear hb)
    | (go_at_call 7; have tk := tok1; (with_reducible refine (laws_toWalkerS.calls k A0 c0 l0 m _ R3.out HC.out HTO.out).mono ?_); rintro e w4 ⟨v4, rfl, hR, hb⟩; obtain ⟨A4, c4, e4, hc4, hC4⟩ := Kd.R_reads hR; subst e4; have B4 := Aside0.mk (B3.out.trans (hb.mono B3.out.size)); have X4 := Aside0.mk hC4; have HC4 := Aside0.mk hc4; have R4 := Aside0.mk (Kd.C_below R3.out hb); clear hR hb hc4 hC4 tok1 tk)
    | (go_at_call 8; (with_reducible refine (HIM.out _ A4 c4 (HT.out.step B4.out) X4.out HC4.out).mono ?_); rintro e w5 ⟨rfl, hb⟩; have B5 := Aside0.mk (B4.out.trans (hb.mono B4.out.size)); have R5 := Aside0.mk (Kd.C_below R4.out hb); have X5 := Aside0.mk (Kd.C_below X4.out hb); clear hb)
    | (go_at_call 7; (with_reducible refine (laws_toWalkerS.calls k A0 c0 l0 m _ R5.out HC.out HTO.out).mono ?_); rintro e w6 ⟨v6, rfl, hR, hb⟩; obtain ⟨A6, c6, e6, hc6, hC6⟩ := Kd.R_reads hR; subst e6; have B6 := Aside0.mk (B5.out.trans (hb.mono B5.out.size)); have Y6 := Aside0.mk hC6; have HC6 := Aside0.mk hc6; have X6 := Aside0.mk (Kd.C_below X5.out hb); clear hR hb hc6 hC6)
    | (go_at_call 9; (with_reducible refine (laws_eqWalkerS.calls k A4 c4 m A6 c6 m true _ X6.out HC4.out Y6.out HC6.out HEQ.out).mono ?_); rintro e w7 ⟨rfl, hb⟩; have B7 := Aside0.mk (B6.out.trans (hb.mono B6.out.size)); clear hb))
  go_ret
  exact ⟨rfl, B7.out⟩
end Go.Proofs.YtajocgijmcbmnaaDoor.OFnExactWalkersText
