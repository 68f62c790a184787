/- impl.SnailText, walked by hand. -/
import Derived.Test.YtaoejhikigljeaaGreatDoorOFnSnailsClimbx0
import Derived.Test.YtaoejhikigljeaaGreatDoorOFnSnailsClimbx1
import Derived.Test.YtaoejhikigljeaaGreatDoorOFnSnailsClimbx2
import Derived.Test.YtaoejhikigljeaaGreatDoorOFnSnailsClimbx3
import Derived.Test.YtaoejhikigljeaaGreatDoorOFnSnailsClimbx4
import Derived.Test.YtaoejhikigljeaaGreatDoorOFnSnailsClimbx5
import Derived.Test.YtaoejhikigljeaaGreatDoorOFnSnailsClimbx6
import Derived.Test.YtaoejhikigljeaaGreatDoorOFnSnailsClimbx7
import Derived.Test.YtaoejhikigljeaaGreatDoorOFnSnailsClimbx8
import Derived.Test.YtaoejhikigljeaaGreatDoorOFnSnailsClimbx9
import Derived.Test.YtaoejhikigljeaaGreatDoorTx
namespace Go.Proofs.YtaoejhikigljeaaGreatDoor.OFnSnailsClimb
open Go.RowKit Go.Proofs.YtaoejhikigljeaaGreatDoorW.PrintWords Go.Proofs.YtaoejhikigljeaaGreatDoorW.PrintLast Go.Proofs.YtaoejhikigljeaaGreatDoorW.PrintMore
set_option linter.unusedVariables false
set_option linter.unusedSimpArgs false
open Go.Proofs.YtaoejhikigljeaaGreatDoor.Tx
def sText (u d : Int) : List UInt8 := j2 u d [45]
set_option maxHeartbeats 8000000 in
set_option maxRecDepth 100000 in
theorem stext.yes (u d : Int) (hu : -1000000000 ≤ u ∧ u ≤ 1000000000) (hd : -1000000000 ≤ d ∧ d ≤ 1000000000) (w : World) (h : impl_IsSnail.f u d = some true) (ht : T1 w) :
    Calls Tryz.prog 16 #[.agg #[.int .i64 u, .int .i64 d]] w fun e w' => e = .returned (.tuple #[.string ⟨(sText u d).toArray⟩, .bool true]) ∧ Below w.heap.size w w' := by
  have HT := Aside0.mk ht
  have HI := Aside0.mk h
  have HU := Aside0.mk hu
  have HD := Aside0.mk hd
  have hus := Tryz.underlying25
  have B0 := Aside0.mk (heap_alloc_new w (.cells #[.int .i64 u, .int .i64 d] 25))
  clear ht h hu hd
  go_enter Tryz.func16, Tryz.ntmps16
  go_wp2_with (first
    | (go_at_call 18; (with_reducible refine (impl_IsSnail.calls u d true _ HI.out).mono ?_); rintro e w1 ⟨rfl, hb⟩; have B1 := Aside0.mk (blk_below B0.out hb); have W1 := Aside0.mk ((below_alloc (Below.refl w.heap.size w) (.cells #[.int .i64 u, .int .i64 d] 25)).trans (hb.mono (by simp))); have c0 := (blk_cell B1.out 0).trans rfl; have c1 := (blk_cell B1.out 1).trans rfl; have N1 := Aside0.mk (heap_alloc_new w1 (.cells #[.int .i64 u, .int .i64 d] 3)); have T2' := Aside0.mk (HT.out.step (below_alloc W1.out (.cells #[.int .i64 u, .int .i64 d] 3))); have J := Aside0.mk (join2.calls u d HU.out HD.out ⟨#[45]⟩ (by simp) w1.heap.size 2 _ N1.out T2'.out); clear hb)
    | (go_at_call 48; (with_reducible refine J.out.mono ?_); rintro e w2 ⟨rfl, hb2⟩; have W2 := Aside0.mk ((below_alloc W1.out (.cells #[.int .i64 u, .int .i64 d] 3)).trans (hb2.mono (by have := W1.out.size; simp; omega))); clear hb2))
  go_ret2
  exact ⟨rfl, W2.out⟩
set_option maxHeartbeats 8000000 in
theorem stext.no (u d : Int) (w : World) (h : impl_IsSnail.f u d = some false) :
    Calls Tryz.prog 16 #[.agg #[.int .i64 u, .int .i64 d]] w fun e w' => e = .returned (.tuple #[.string ⟨#[]⟩, .bool false]) ∧ Below w.heap.size w w' := by
  have HI := Aside0.mk h
  have hus := Tryz.underlying25
  clear h
  go_enter Tryz.func16, Tryz.ntmps16
  go_wp2_with (go_at_call 18; (with_reducible refine (impl_IsSnail.calls u d false _ HI.out).mono ?_); rintro e w1 ⟨rfl, hb⟩; have W1 := Aside0.mk ((below_alloc (Below.refl w.heap.size w) (.cells #[.int .i64 u, .int .i64 d] 25)).trans (hb.mono (by simp))); clear hb)
  go_ret2
  exact ⟨rfl, W1.out⟩
end Go.Proofs.YtaoejhikigljeaaGreatDoor.OFnSnailsClimb
