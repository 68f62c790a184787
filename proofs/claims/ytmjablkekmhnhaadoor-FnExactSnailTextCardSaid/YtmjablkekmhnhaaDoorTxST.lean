/- impl.SnailText and its law, walked by hand. -/
import Derived.Test.YtmjablkekmhnhaaDoorOFnExactSnailTextx1
import Derived.Test.YtmjablkekmhnhaaDoorTx
namespace Go.Proofs.YtmjablkekmhnhaaDoor.OFnExactSnailText
open Go.RowKit Go.Proofs.YtmjablkekmhnhaaDoorW.PrintWords Go.Proofs.YtmjablkekmhnhaaDoorW.PrintLast Go.Proofs.YtmjablkekmhnhaaDoorW.PrintMore
set_option linter.unusedVariables false
set_option linter.unusedSimpArgs false
open Go.Proofs.YtmjablkekmhnhaaDoor.Tx
theorem sBox (W : World) (a b : Int) (t : TypeId) (o : Obj) (g : Nat) (h : W.heap[g]? = some o) : (W.alloc (.cells #[.int .i64 a, .int .i64 b] t)).heap[W.heap.size]? = some (.cells #[.int .i64 a, .int .i64 b] t (0, 0)) ∧ Below W.heap.size W (W.alloc (.cells #[.int .i64 a, .int .i64 b] t)) :=
  ⟨heap_alloc_new W _, below_alloc (Below.refl _ _) _⟩
def sText (u d : Int) : List UInt8 := j2 u d [45]
set_option maxHeartbeats 8000000 in
set_option maxRecDepth 100000 in
theorem stext.yes (u d : Int) (hu : -1000000000 ≤ u ∧ u ≤ 1000000000) (hd : -1000000000 ≤ d ∧ d ≤ 1000000000) (w : World) (h : impl_IsSnail.f u d = some true) (ht : T1 w) :
    Calls Tryd.prog 7 #[.agg #[.int .i64 u, .int .i64 d]] w fun e w' => e = .returned (.tuple #[.string ⟨(sText u d).toArray⟩, .bool true]) ∧ Below w.heap.size w w' := by
  have HT := Aside0.mk ht
  have HI := Aside0.mk h
  have HU := Aside0.mk hu
  have HD := Aside0.mk hd
  have hus := Tryd.underlying26
  have B0 := Aside0.mk (heap_alloc_new w (.cells #[.int .i64 u, .int .i64 d] 26))
  clear ht h hu hd
  go_enter Tryd.func7, Tryd.ntmps7
  go_wp2_with (first
    | (go_at_call 13; (with_reducible refine (impl_IsSnail.calls u d true _ HI.out).mono ?_); rintro e w1 ⟨rfl, hb⟩; have B1 := Aside0.mk (blk_below B0.out hb); have W1 := Aside0.mk ((below_alloc (Below.refl w.heap.size w) (.cells #[.int .i64 u, .int .i64 d] 26)).trans (hb.mono (by simp))); have c0 := (blk_cell B1.out 0).trans rfl; have c1 := (blk_cell B1.out 1).trans rfl; have N1 := Aside0.mk (heap_alloc_new w1 (.cells #[.int .i64 u, .int .i64 d] 3)); have T2' := Aside0.mk (HT.out.step (below_alloc W1.out (.cells #[.int .i64 u, .int .i64 d] 3))); have J := Aside0.mk (join2.calls u d HU.out HD.out ⟨#[45]⟩ (by simp) w1.heap.size 2 _ N1.out T2'.out); clear hb)
    | (go_at_call 14; (with_reducible refine J.out.mono ?_); rintro e w2 ⟨rfl, hb2⟩; have W2 := Aside0.mk ((below_alloc W1.out (.cells #[.int .i64 u, .int .i64 d] 3)).trans (hb2.mono (by have := W1.out.size; simp; omega))); clear hb2))
  go_ret2
  exact ⟨rfl, W2.out⟩
set_option maxHeartbeats 8000000 in
theorem stext.no (u d : Int) (w : World) (h : impl_IsSnail.f u d = some false) :
    Calls Tryd.prog 7 #[.agg #[.int .i64 u, .int .i64 d]] w fun e w' => e = .returned (.tuple #[.string ⟨#[]⟩, .bool false]) ∧ Below w.heap.size w w' := by
  have HI := Aside0.mk h
  have hus := Tryd.underlying26
  clear h
  go_enter Tryd.func7, Tryd.ntmps7
  go_wp2_with (go_at_call 13; (with_reducible refine (impl_IsSnail.calls u d false _ HI.out).mono ?_); rintro e w1 ⟨rfl, hb⟩; have W1 := Aside0.mk ((below_alloc (Below.refl w.heap.size w) (.cells #[.int .i64 u, .int .i64 d] 26)).trans (hb.mono (by simp))); clear hb)
  go_ret2
  exact ⟨rfl, W1.out⟩
set_option maxHeartbeats 8000000 in
set_option maxRecDepth 100000 in
theorem lawST.calls (k : Nat) (u d : Int) (w : World) (txt : ByteArray) (ok : Bool) (hto : laws_toSnail.f u d = some (u, d)) (hsp : spec_SnailText.f k u d = some (txt, ok))
    (him : ∀ W : World, T1 W → Calls Tryd.prog 7 #[.agg #[.int .i64 u, .int .i64 d]] W fun e w' => e = .returned (.tuple #[.string txt, .bool ok]) ∧ Below W.heap.size W w') (ht : T1 w) :
    Calls Tryd.prog 3 #[.agg #[.int .i64 u, .int .i64 d]] w fun e w' => e = .returned (.bool true) ∧ Below w.heap.size w w' := by
  have HTO := Aside0.mk hto
  have HSP := Aside0.mk hsp
  have HIM := Aside0.mk him
  have HT := Aside0.mk ht
  have hul := Tryd.underlying23
  have X0 := Aside0.mk (heap_alloc_new w (.cells #[.int .i64 u, .int .i64 d] 23))
  have tok0 : True := trivial
  clear hto hsp him ht
  go_enter Tryd.func3, Tryd.ntmps3
  go_wp2_with (first
    | (go_at_call 6; have tk := tok0; (with_reducible refine (laws_toSnail.calls u d u d _ HTO.out).mono ?_); rintro e w1 ⟨rfl, hb⟩; have B1 := Aside0.mk ((below_alloc (Below.refl w.heap.size w) (.cells #[.int .i64 u, .int .i64 d] 23)).trans (hb.mono (by simp))); have X1 := Aside0.mk (blk_below X0.out hb); clear hb tok0 tk)
    | (go_at_call 5; (with_reducible refine (spec_SnailText.calls k u d txt ok _ HSP.out).mono ?_); rintro e w2 ⟨rfl, hb⟩; have B2 := Aside0.mk (B1.out.trans (hb.mono B1.out.size)); have X2 := Aside0.mk (blk_below X1.out hb); have c0 := (blk_cell X2.out 0).trans rfl; have c1 := (blk_cell X2.out 1).trans rfl; clear hb)
    | (go_at_call 6; (with_reducible refine (laws_toSnail.calls u d u d _ HTO.out).mono ?_); rintro e w3 ⟨rfl, hb⟩; have B3 := Aside0.mk (B2.out.trans (hb.mono B2.out.size)); clear hb)
    | (go_at_call 7; (with_reducible refine (HIM.out _ (HT.out.step B3.out)).mono ?_); rintro e w4 ⟨rfl, hb⟩; have B4 := Aside0.mk (B3.out.trans (hb.mono B3.out.size)); clear hb))
  go_ret
  exact ⟨rfl, B4.out⟩
end Go.Proofs.YtmjablkekmhnhaaDoor.OFnExactSnailText
