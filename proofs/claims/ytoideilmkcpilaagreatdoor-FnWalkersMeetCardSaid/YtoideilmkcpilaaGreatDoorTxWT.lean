/- impl.WalkersText, walked by hand. -/
import Derived.Test.YtoideilmkcpilaaGreatDoorOFnWalkersMeetx0
import Derived.Test.YtoideilmkcpilaaGreatDoorOFnWalkersMeetx1
import Derived.Test.YtoideilmkcpilaaGreatDoorOFnWalkersMeetx10
import Derived.Test.YtoideilmkcpilaaGreatDoorOFnWalkersMeetx11
import Derived.Test.YtoideilmkcpilaaGreatDoorOFnWalkersMeetx12
import Derived.Test.YtoideilmkcpilaaGreatDoorOFnWalkersMeetx2
import Derived.Test.YtoideilmkcpilaaGreatDoorOFnWalkersMeetx3
import Derived.Test.YtoideilmkcpilaaGreatDoorOFnWalkersMeetx4
import Derived.Test.YtoideilmkcpilaaGreatDoorOFnWalkersMeetx5
import Derived.Test.YtoideilmkcpilaaGreatDoorOFnWalkersMeetx6
import Derived.Test.YtoideilmkcpilaaGreatDoorOFnWalkersMeetx7
import Derived.Test.YtoideilmkcpilaaGreatDoorOFnWalkersMeetx8
import Derived.Test.YtoideilmkcpilaaGreatDoorOFnWalkersMeetx9
import Derived.Test.YtoideilmkcpilaaGreatDoorTx
namespace Go.Proofs.YtoideilmkcpilaaGreatDoor.OFnWalkersMeet
open Go.RowKit Go.Proofs.YtoideilmkcpilaaGreatDoorW.PrintWords Go.Proofs.YtoideilmkcpilaaGreatDoorW.PrintLast Go.Proofs.YtoideilmkcpilaaGreatDoorW.PrintMore
set_option linter.unusedVariables false
set_option linter.unusedSimpArgs false
open Go.Proofs.YtoideilmkcpilaaGreatDoor.Tx
def wTexts (l : List S25) : List ByteArray := l.map fun x => ⟨(j2 x.f0 x.f1 [58]).toArray⟩
theorem wTexts_len (l : List S25) : (wTexts l).length = l.length := by simp [wTexts]
theorem wTexts_at (l : List S25) (k : Nat) (hk : k < l.length) : (wTexts l).getD k ByteArray.empty = ⟨(j2 (l.getD k z25).f0 (l.getD k z25).f1 [58]).toArray⟩ := by simp [wTexts, List.getD_eq_getElem?_getD, hk]
def wText (l : List S25) : List UInt8 := Lib.join ((wTexts l).map (·.data.toList)) [44]
def wOk (x : S25) : Prop := (-1000000000 ≤ x.f0 ∧ x.f0 ≤ 1000000000) ∧ (-1000000000 ≤ x.f1 ∧ x.f1 ≤ 1000000000)
theorem wText_len (l : List S25) (h : ∀ x ∈ l, wOk x) : (wText l).length ≤ 47 * l.length := by
  unfold wText
  cases l with
  | nil => simp [wTexts, Lib.join_nil]
  | cons y r =>
    simp only [wTexts, List.map_cons, Lib.join_cons, List.length_append]
    have h0 : (j2 y.f0 y.f1 [58]).length ≤ 46 := j2_len _ _ (h y (by simp)).1 (h y (by simp)).2 _ (by simp)
    rw [Lib.joinTail_length]
    have hl : Lib.lens ((r.map fun x : S25 => (⟨(j2 x.f0 x.f1 [58]).toArray⟩ : ByteArray)).map (·.data.toList)) ≤ 46 * r.length := by
      have hr : ∀ x ∈ r, wOk x := fun x hx => h x (by simp [hx])
      clear h h0
      induction r with
      | nil => simp [Lib.lens]
      | cons z q ih =>
        have a := ih (fun x hx => hr x (by simp [hx]))
        have b := j2_len _ _ (hr z (by simp)).1 (hr z (by simp)).2 [58] (by simp)
        simp only [Lib.lens, List.map_cons, List.sum_cons, List.length_cons] at a ⊢
        omega
    simp only [List.length_map, List.length_cons, List.length_nil] at hl ⊢
    omega
theorem wAt (w : World) (A : Option Addr) (l : List S25) (hr : Kd.C k25 w A l.length l) (i : Nat) (hi : i < l.length) : ∃ ad, A = some ad ∧ ∀ W, Below w.heap.size w W → W.cell? (ad.add (i * 2)) = some (.int .i64 (l.getD i z25).f0) ∧ W.cell? ⟨(ad.add (i * 2)).block, (ad.add (i * 2)).off + 1, none⟩ = some (.int .i64 (l.getD i z25).f1) := by
  obtain ⟨ad, e0, hx0, hx1⟩ := at_T25 hr (i : Int) (by omega) (by omega)
  rw [show je l (i : Int) = l.getD i z25 by unfold je; simp] at hx0 hx1
  simp only [Int.toNat_natCast] at hx0 hx1
  refine ⟨ad, e0, fun W hW => ⟨(hW.cell (World.block_lt_of_cell? w _ hx0)).trans hx0, (hW.cell (World.block_lt_of_cell? w _ hx1)).trans hx1⟩⟩
theorem wTwo (W : World) (a b : Int) (t : TypeId) : ((W.alloc (.cells #[.int .i64 a, .int .i64 b] t)).alloc (.cells #[.int .i64 a, .int .i64 b] 3)).heap[W.heap.size + 1]? = some (.cells #[.int .i64 a, .int .i64 b] 3 (0, 0)) ∧ Below W.heap.size W ((W.alloc (.cells #[.int .i64 a, .int .i64 b] t)).alloc (.cells #[.int .i64 a, .int .i64 b] 3)) := by
  refine ⟨?_, qb (qb (Below.refl _ _) _) _⟩
  have := heap_alloc_new (W.alloc (.cells #[.int .i64 a, .int .i64 b] t)) (.cells #[.int .i64 a, .int .i64 b] 3)
  rwa [World.size_alloc] at this
set_option maxHeartbeats 8000000 in
set_option maxRecDepth 100000 in
theorem wtext.yes (A0 : Option Addr) (c0 : Nat) (l0 : List S25) (w : World) (hr0 : Kd.C k25 w A0 l0.length l0) (hc0 : l0.length ≤ c0) (h1 : 1 ≤ l0.length) (h8 : l0.length ≤ 8)
    (hb : ∀ x ∈ l0, wOk x) (h : impl_AreWalkers.f l0 = some true) (ht : T1 w) :
    Calls Tryz.prog 18 #[.slice A0 l0.length c0] w fun e w' => e = .returned (.tuple #[.string ⟨(wText l0).toArray⟩, .bool true]) ∧ Below w.heap.size w w' := by
  have HR := jb.mk hr0
  have HT := jb.mk ht
  have HBD := jb.mk hb
  have HW := jb.mk h
  have HC0 := jb.mk hc0
  have hu := Tryz.underlying25
  have hmk := print_makeS (P := Tryz.prog) 64 9 Tryz.underlying64 stringInfo l0.length (by omega)
  clear hr0 ht hb h hc0
  go_enter Tryz.func18, Tryz.ntmps18
  go_wp2_with (go_at_call 31; (with_reducible refine (impl_AreWalkers.calls A0 c0 l0 true _ HR.out HC0.out HW.out).mono ?_); rintro e w1 ⟨rfl, hb1⟩; have B1 := jb.mk hb1; clear hb1)
  have S0 := jb.mk (made_prt w1 (wTexts l0) l0.length (wTexts_len l0).symm)
  have B0 := jb.mk (qb B1.out (.cells (madeCells #[.string ByteArray.empty] l0.length) 9))
  generalize w1.alloc (.cells (madeCells #[.string ByteArray.empty] l0.length) 9) = wm at S0 B0 ⊢
  obtain ⟨B, hB⟩ : ∃ q, w1.heap.size = q := ⟨_, rfl⟩
  have HBB : jb (w.heap.size ≤ B) := ⟨hB ▸ B1.out.size⟩
  rw [hB] at S0 ⊢
  clear hmk hB B1
  go_loopg [15] l0.length (fun gg v15 wr => ∃ kk : Nat, v15 = .int .i64 kk ∧ kk ≤ l0.length ∧ l0.length - kk ≤ gg ∧ jb (SoW B B 9 wm (prt (wTexts l0) (wTexts l0).length kk) wr))
  case atStart => exact ⟨0, by go_num, by omega, by omega, S0⟩
  case round =>
    clear S0
    obtain ⟨kk, rfl, hkk, hgg, S1⟩ := hrel
    have BW : jb (Below w.heap.size w wr) := ⟨B0.out.trans (S1.out.2.1.mono HBB.out)⟩
    by_cases hlt : kk < l0.length
    · have hltz : (kk : Int) < (l0.length : Int) := by omega
      obtain ⟨ad, eA, hcell⟩ := wAt w A0 l0 HR.out kk hlt
      subst eA
      obtain ⟨c0', c1'⟩ := hcell wr BW.out
      have HOK : jb (wOk (l0.getD kk z25)) := ⟨HBD.out _ (by simp [List.getD_eq_getElem?_getD, hlt])⟩
      have HSA := jb.mk (wTexts_at l0 kk hlt)
      clear hcell
      generalize hn : l0.getD kk z25 = xx at c0' c1' HOK HSA
      clear hn
      obtain ⟨p, s⟩ := xx
      simp only at c0' c1'
      have TW := jb.mk (wTwo wr p s 25)
      have T2 := jb.mk ((HT.out.step BW.out).step TW.out.2)
      have J2C := jb.mk (join2.calls p s HOK.out.1 HOK.out.2 ⟨#[58]⟩ (by simp) (wr.heap.size + 1) 2 _ TW.out.1 T2.out)
      go_wp2_with (go_at_call 44; (with_reducible refine (J2C.out).mono ?_); rintro e w2 ⟨rfl, hb2⟩; have S2 := jb.mk ((S1.out.grow TW.out.2).grow hb2); clear hb2; have f2 := S2.out.fr kk; have c2 := S2.out.at kk (by rw [prt_length _ _ (by rw [wTexts_len]; exact hkk), wTexts_len]; exact hlt))
      have S3 := jb.mk (prt_set (wTexts l0) kk (by rw [wTexts_len]; exact hlt) _ HSA.out ▸ S2.out.set kk (.string ⟨(j2 p s [58]).toArray⟩))
      go_roundg (l0.length - (kk + 1))
      case measure => omega
      case rel => exact ⟨kk + 1, by go_num, by omega, by omega, S3⟩
    · have hltz : ¬ (kk : Int) < (l0.length : Int) := by omega
      have e : kk = l0.length := by omega
      have HS := jb.mk ((show kk = (wTexts l0).length by rw [wTexts_len]; exact e) ▸ S1.out)
      have HLN := wText_len l0 HBD.out
      have HQ := jb.mk (Tryz.strings_Join B 0 l0.length (wTexts l0) ⟨#[44]⟩ wr (prt_cells _ _ _ HS.out.2.2.1) (blk_lt HS.out.2.2.1) (by rw [wTexts_len]; omega) (by rw [wTexts_len]; omega) (by unfold wText at HLN; simp only [List.toList_toArray] at *; omega))
      rw [wTexts_len] at HQ
      clear S1 HLN
      go_wp2_with (go_at_call 45; (with_reducible refine HQ.out.mono ?_); rintro e w2 ⟨rfl, hb2⟩; have BQ := jb.mk hb2; clear hb2)
      go_ret2
      exact ⟨rfl, BW.out.trans (BQ.out.mono BW.out.size)⟩
set_option maxHeartbeats 8000000 in
theorem wtext.no (A0 : Option Addr) (c0 : Nat) (l0 : List S25) (w : World) (hr0 : Kd.C k25 w A0 l0.length l0) (hc0 : l0.length ≤ c0) (h : impl_AreWalkers.f l0 = some false) :
    Calls Tryz.prog 18 #[.slice A0 l0.length c0] w fun e w' => e = .returned (.tuple #[.string ⟨#[]⟩, .bool false]) ∧ Below w.heap.size w w' := by
  have HR := jb.mk hr0
  have HW := jb.mk h
  have HC0 := jb.mk hc0
  clear hr0 h hc0
  go_enter Tryz.func18, Tryz.ntmps18
  go_wp2_with (go_at_call 31; (with_reducible refine (impl_AreWalkers.calls A0 c0 l0 false _ HR.out HC0.out HW.out).mono ?_); rintro e w1 ⟨rfl, hb1⟩; have B1 := jb.mk hb1; clear hb1)
  go_ret2
  exact ⟨rfl, B1.out⟩
end Go.Proofs.YtoideilmkcpilaaGreatDoor.OFnWalkersMeet
