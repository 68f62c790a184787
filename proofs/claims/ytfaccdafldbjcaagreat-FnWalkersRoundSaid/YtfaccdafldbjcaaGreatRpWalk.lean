/- impl.ringPlaces, walked by hand over the shelf's contracts of slices.Sort and slices.Compact. -/
import Derived.Test.YtfaccdafldbjcaaGreatOFnWalkersRoundx0
import Derived.Test.YtfaccdafldbjcaaGreatOFnWalkersRoundx1
import Derived.Test.YtfaccdafldbjcaaGreatOFnWalkersRoundx2
import Derived.Test.YtfaccdafldbjcaaGreatOFnWalkersRoundx3
import Derived.Test.YtfaccdafldbjcaaGreatOFnWalkersRoundx4
import Derived.Test.YtfaccdafldbjcaaGreatOFnWalkersRoundx5
import Derived.Test.YtfaccdafldbjcaaGreatOFnWalkersRoundx6
import Derived.Test.YtfaccdafldbjcaaGreatOFnWalkersRoundx7
import Derived.Test.YtfaccdafldbjcaaGreatOFnWalkersRoundx8
import Derived.Test.YtfaccdafldbjcaaGreatOFnWalkersRoundx9
import Derived.Test.YtfaccdafldbjcaaGreatOFnWalkersRoundx10
import Derived.Test.YtfaccdafldbjcaaGreatOFnWalkersRoundx11
import Derived.Test.YtfaccdafldbjcaaGreatOFnWalkersRoundx12
import Derived.Test.YtfaccdafldbjcaaGreatOFnWalkersRoundx13
import Derived.Test.YtfaccdafldbjcaaGreatShelf
import Derived.Sort.OwnSortedInts
import Derived.Lib.OwnBridge
import Derived.Shelf.Abstract
import Derived.Deep.RegionHeld3
import Derived.Shelf.RegionOpenPlain
import Derived.BigQuiet
import Derived.BigRegion
import Derived.WalkKit
import Derived.Deep.LoopGhost
import Derived.Deep.DeepCutAuto
namespace Go.Proofs.YtfaccdafldbjcaaGreat.OFnWalkersRound
open Go.RowKit Go.Proofs.YtfaccdafldbjcaaGreatW.PrintWords Go.Proofs.YtfaccdafldbjcaaGreatW.PrintLast Go.Proofs.YtfaccdafldbjcaaGreatW.PrintMore
set_option linter.unusedVariables false
set_option linter.unusedSimpArgs false
/-- The cells of a row of numbers. -/
def rowC (r : List Int) : Array Value := (r.map (Value.int .i64)).toArray
/-- v is a row of rows of the call's own: row j lies in a block of its own. -/
def RRh (w0 W : World) (v : Value) (rs : List (List Int)) (gs : List Nat) : Prop :=
  Below w0.heap.size w0 W ∧ gs.length = rs.length ∧ W.ownsRow w0.heap.size 35 1 v rs.length (gs.map fun g => .slice (some ⟨g, 0, none⟩) 2 2) ∧
    (∀ j, j < rs.length → (rs.getD j []).length = 2 ∧ W.heap[gs.getD j 0]? = some (.cells (rowC (rs.getD j [])) 3 (0, 0)) ∧ w0.heap.size ≤ gs.getD j 0 ∧ v.ownBlock ≠ some (gs.getD j 0)) ∧ gs.Nodup ∧ (rs = [] → v = .slice none 0 0)
def RRx (w0 W : World) (v : Value) (rs : List (List Int)) : Prop := ∃ gs, RRh w0 W v rs gs
theorem RRx.start (w : World) : RRx w w (.slice none 0 0) [] :=
  ⟨[], Below.refl _ _, rfl, own_nil _ _ _ _, fun j hj => by simp at hj, List.nodup_nil, fun _ => rfl⟩
theorem RRx.step {w0 W W' : World} {v : Value} {rs : List (List Int)} (h : RRx w0 W v rs) (hb : Below W.heap.size W W') : RRx w0 W' v rs := by
  obtain ⟨gs, h0, h1, h2, h3, h4, h5⟩ := h
  exact ⟨gs, h0.trans (hb.mono h0.size), h1, pw_own_below h2 hb, fun j hj => by obtain ⟨a, b, c, d⟩ := h3 j hj; exact ⟨a, qu b hb, c, d⟩, h4, h5⟩
/-- Behind an append of a row that was laid last. -/
theorem RRh.push {w0 W W1 : World} {v v1 : Value} {rs : List (List Int)} {gs : List Nat} (h : RRh w0 W v rs gs) (r : List Int) (hr : r.length = 2)
    (hown : W1.ownsRow w0.heap.size 35 1 v1 (rs.length + 1) ((gs.map fun g => .slice (some ⟨g, 0, none⟩) 2 2) ++ [.slice (some ⟨W.heap.size, 0, none⟩) 2 2]))
    (hb : Below w0.heap.size w0 W1) (hg : (W.alloc (.cells (rowC r) 3)).grownBy W1 v.ownBlock) (hat : v1.ownBlock = v.ownBlock ∨ ∃ b, v1.ownBlock = some b ∧ (W.alloc (.cells (rowC r) 3)).heap.size ≤ b) : RRx w0 W1 v1 (rs ++ [r]) := by
  obtain ⟨h0, g1, g2, g3, g4, g5⟩ := h
  rw [World.size_alloc] at hat
  have lt : ∀ j, j < rs.length → gs.getD j 0 < W.heap.size := fun j hj => blk_lt (g3 j hj).2.1
  have hv : v.ownBlock ≠ some W.heap.size := fun e => by
    have := own_lt g2 _ e
    omega
  refine ⟨gs ++ [W.heap.size], hb, by simp [g1], by simpa using hown, fun j hj => ?_, ?_, fun e => by simp at e⟩
  · by_cases z : j < rs.length
    · obtain ⟨a, b, c, d⟩ := g3 j z
      have e1 : (gs ++ [W.heap.size]).getD j 0 = gs.getD j 0 := by simp only [List.getD_eq_getElem?_getD]; rw [List.getElem?_append_left (by omega)]
      have e2 : (rs ++ [r]).getD j [] = rs.getD j [] := by simp only [List.getD_eq_getElem?_getD]; rw [List.getElem?_append_left z]
      rw [e1, e2]
      have l := lt j z
      refine ⟨a, ?_, c, ?_⟩
      · rw [hg.block _ (by rw [World.size_alloc]; omega) (fun e => d e.symm)]
        exact qe b _
      · rcases hat with q | ⟨q, q1, q2⟩
        · rw [q]; exact d
        · rw [q1]; intro e; have := Option.some.inj e; omega
    · have e : j = rs.length := by simp at hj; omega
      subst e
      have e1 : (gs ++ [W.heap.size]).getD rs.length 0 = W.heap.size := by rw [← g1]; simp [List.getD_eq_getElem?_getD]
      have e2 : (rs ++ [r]).getD rs.length [] = r := by simp [List.getD_eq_getElem?_getD]
      rw [e1, e2]
      refine ⟨hr, ?_, h0.size, ?_⟩
      · rw [hg.block _ (by rw [World.size_alloc]; omega) (fun e => hv e.symm)]
        exact heap_alloc_new W _
      · rcases hat with q | ⟨q, q1, q2⟩
        · rw [q]; exact hv
        · rw [q1]; intro e; have := Option.some.inj e; omega
  · rw [List.nodup_append]
    refine ⟨g4, by simp, fun a ha b hb => ?_⟩
    simp at hb
    subst hb
    obtain ⟨j, hj, rfl⟩ := List.mem_iff_getElem.1 ha
    have := lt j (by omega)
    simp [List.getD_eq_getElem?_getD, hj] at this
    omega
theorem RRx.lower {w w5 W : World} {v : Value} {rs : List (List Int)} (hb : Below w.heap.size w w5) (h : RRx w5 W v rs) : RRx w W v rs := by
  obtain ⟨gs, h0, h1, h2, h3, h4, h5⟩ := h
  refine ⟨gs, hb.trans (h0.mono hb.size), h1, ?_, fun j hj => by obtain ⟨a, b, c, d⟩ := h3 j hj; exact ⟨a, b, Nat.le_trans hb.size c, d⟩, h4, h5⟩
  obtain ⟨l, q⟩ := h2
  refine ⟨l, q.imp id fun ⟨g, cap, cells, e, hg, r⟩ => ⟨g, cap, cells, e, Nat.le_trans hb.size hg, r⟩⟩
/-- The row of numbers that the call has built. -/
def SN (w0 W : World) (v : Value) (zs : List Int) (B : Nat) (o : Obj) : Prop := Below w0.heap.size w0 W ∧ W.ownsRow w0.heap.size 3 1 v zs.length (zs.map (Value.int .i64)) ∧ W.heap[B]? = some o
theorem SN.step {w0 W W' : World} {v : Value} {zs : List Int} {B : Nat} {o : Obj} (h : SN w0 W v zs B o) (hb : Below W.heap.size W W') : SN w0 W' v zs B o :=
  ⟨h.1.trans (hb.mono h.1.size), pw_own_below h.2.1 hb, qu h.2.2 hb⟩
theorem own_grownX0 {base n : Nat} {W : World} {v : Value} {xs : List Value} (h : W.ownsRow base 3 1 v n xs) (o : Obj) : (W.alloc o).ownsRow base 3 1 v n xs := h.alloc o
theorem own_grownX {base n : Nat} {W W' : World} {v : Value} {xs : List Value} {row : Option Nat} (h : W.ownsRow base 3 1 v n xs) (hg : W.grownBy W' row) (hn : ∀ k, v.ownBlock = some k → row = some k → False) : W'.ownsRow base 3 1 v n xs := by
  obtain ⟨l, q⟩ := h
  refine ⟨l, q.imp id ?_⟩
  rintro ⟨g, cap, cells, rfl, hb, hh, r⟩
  exact ⟨g, cap, cells, rfl, hb, (hg.block g (blk_lt hh) (fun e => hn g rfl e.symm)).trans hh, r⟩
theorem own_ne2 {base base' n m : Nat} {W : World} {v v' : Value} {xs ys : List Value} (h : W.ownsRow base 3 1 v n xs) (h' : W.ownsRow base' 35 1 v' m ys) (k : Nat) (e : v.ownBlock = some k) (e' : v'.ownBlock = some k) : False := by
  obtain ⟨_, ⟨rfl, _⟩ | ⟨g, cap, cells, rfl, hb, hh, r⟩⟩ := h
  · simp [Value.ownBlock] at e
  · obtain rfl : g = k := by simpa [Value.ownBlock] using e
    exact own_ne h' hh (by decide) e'.symm
def numsT (nf : Nat → Int) (n : Nat) : List Int := (List.range n).map nf
theorem numsT_len (nf : Nat → Int) (n : Nat) : (numsT nf n).length = n := by simp [numsT]
theorem numsT_succ (nf : Nat → Int) (n : Nat) : numsT nf (n + 1) = numsT nf n ++ [nf n] := by simp [numsT, List.range_succ]
def rpRows (lw : Int → Int × Int) (cs : List Int) : List (List Int) := cs.map fun n => [(lw n).1, (lw n).2]
set_option maxHeartbeats 8000000 in
set_option maxRecDepth 100000 in
theorem rp.calls (K : Nat) (a0 p s p' s' gap sp : Int) (nf : Nat → Int) (lw : Int → Int × Int) (w : World) (h51 : impl_ringGap.f a0 p s p' s' = some (gap, sp)) (hs1 : 1 ≤ sp) (hs2 : sp ≤ 1000)
    (hn : ∀ x : Int, 0 ≤ x → x < sp → impl_around.f (wrap64 (wrap64 (p * sp) + wrap64 (s * wrap64 (gap + wrap64 (x * a0))))) (wrap64 (a0 * sp)) = some (nf x.toNat)) (cs : List Int)
    (hcs : Lib.compact ((numsT nf sp.toNat).mergeSort fun x y => decide (x ≤ y)) = cs) (hcl : cs.length ≤ 1000)
    (hl : ∀ n ∈ cs, impl_lowest.f K n sp = some ((lw n).1, (lw n).2)) :
    Calls Tryz.prog 33 #[.int .i64 a0, .agg #[.int .i64 p, .int .i64 s], .agg #[.int .i64 p', .int .i64 s']] w fun e w' => ∃ v, e = .returned v ∧ RRx w w' v (rpRows lw cs) := by
  have H51 := jb.mk h51
  have HN := jb.mk hn
  have HL := jb.mk hl
  have HCS := jb.mk hcs
  have HCL := jb.mk hcl
  have hu25 := Tryz.underlying25
  have mixed : Tryz.prog.follows .mixedOrders = true := by kernel_rfl
  clear h51 hn hl hcs hcl
  go_enter Tryz.func33, Tryz.ntmps33
  go_wp2_with (go_at_call 39; (with_reducible refine (impl_ringGap.calls a0 p s p' s' gap sp _ H51.out).mono ?_); rintro e W1 ⟨rfl, hb1⟩; have BX := jb.mk (qu (qe (heap_alloc_new w (.cells #[.int .i64 p, .int .i64 s] 25)) (.cells #[.int .i64 p', .int .i64 s'] 25)) hb1); have B1 := jb.mk ((qb (qb (Below.refl w.heap.size w) _) _).trans (hb1.mono (by rw [World.size_alloc, World.size_alloc]; omega))); clear hb1 H51)
  have B0 : jb (SN w W1 (.slice none 0 0) (numsT nf 0) w.heap.size (.cells #[.int .i64 p, .int .i64 s] 25 (0, 0))) := ⟨B1.out, own_nil _ _ _ _, BX.out⟩
  clear BX B1
  go_loopg [24, 9] (sp.toNat) (fun gg v24 v9 wr => ∃ (x : Int), v24 = .int .i64 x ∧ jb (0 ≤ x) ∧ jb (x ≤ sp) ∧ jb (sp.toNat - x.toNat ≤ gg) ∧ jb (SN w wr v9 (numsT nf x.toNat) w.heap.size (.cells #[.int .i64 p, .int .i64 s] 25 (0, 0))))
  case atStart => exact ⟨0, rfl, ⟨by omega⟩, ⟨by omega⟩, ⟨by omega⟩, B0⟩
  case round =>
    clear B0
    obtain ⟨x, rfl, E0, E1, EG, R1⟩ := hrel
    by_cases hlt : x < sp
    · have p0 : (0 : Int) ≤ x := E0.out
      have c0 := (qh R1.out.2.2 0).trans rfl
      have c1 := (qh R1.out.2.2 1).trans rfl
      have HNX := jb.mk (HN.out x p0 hlt)
      obtain ⟨zs, hzs⟩ : ∃ zs, numsT nf x.toNat = zs := ⟨_, rfl⟩
      have HZ := jb.mk hzs
      rw [hzs] at R1
      clear hzs
      obtain ⟨q, hq⟩ : ∃ q, nf x.toNat = q := ⟨_, rfl⟩
      have HQ := jb.mk hq
      rw [hq] at HNX
      clear hq
      have HZL : jb (zs.length ≤ 1000) := ⟨by rw [← HZ.out, numsT_len]; omega⟩
      go_wp2_with (first
        | (go_at_call 66; (with_reducible refine (impl_around.calls _ _ q _ HNX.out).mono ?_); rintro e W2 ⟨rfl, hd⟩; have R3 := jb.mk (R1.out.step hd.below); clear hd R1)
        | ((with_reducible refine gate_builtin (b := .append) (xs := #[.tmp 27, .tmp 45]) rfl ?_); at_builtin; refine print_append_cells (w0 := w) (W := W2) w.heap.size rfl (.tmp 27) (.tmp 45) 35 3 (.int .i64 0) 1 8 rfl Tryz.underlying35 info3 rfl (by decide) (by omega) u9 zs.length (zs.map (Value.int .i64)) [.int .i64 q] rfl ?hx rfl ?h1 ?HO ?HB ?hb ?hl ?_; (case hx => rfl); (case h1 => (intro u hu; rw [List.mem_singleton.1 hu]; rfl)); (case HO => exact R3.out.2.1); (case HB => exact R3.out.1); (case hb => exact R3.out.1.size); (case hl => have := HZL.out; omega); intro v1 w1 ho hb hg hat; have R4 := jb.mk (show SN w w1 v1 (zs ++ [q]) w.heap.size (.cells #[.int .i64 p, .int .i64 s] 25 (0, 0)) from ⟨hb, by simpa using ho, (hg.block w.heap.size (blk_lt R3.out.2.2) (own_ne R3.out.2.1 R3.out.2.2 (by decide))).trans R3.out.2.2⟩); clear ho hb hg hat R3))
      have hw1 : wrap64 (x + 1) = x + 1 := by unfold wrap64; omega
      go_roundg (sp.toNat - (x + 1).toNat)
      case measure => have := EG.out; omega
      case rel =>
        have e2 : numsT nf (x + 1).toNat = zs ++ [q] := by rw [show (x + 1).toNat = x.toNat + 1 by omega, numsT_succ, HZ.out, HQ.out]
        exact ⟨x + 1, by first | rfl | rw [hw1] | simp [hw1], ⟨by omega⟩, ⟨by omega⟩, ⟨by omega⟩, ⟨by rw [e2]; exact R4.out⟩⟩
    · have e : x = sp := by have := E1.out; omega
      subst e
      obtain ⟨zs, hzs⟩ : ∃ zs, numsT nf x.toNat = zs := ⟨_, rfl⟩
      have hzl : zs.length = x.toNat := by rw [← hzs, numsT_len]
      have HCS' := HCS.out
      rw [hzs] at R1 HCS'
      clear hzs HCS
      obtain ⟨ts, hts⟩ : ∃ ts, (zs.mergeSort fun x y => decide (x ≤ y)) = ts := ⟨_, rfl⟩
      have htl : ts.length = zs.length := by rw [← hts, List.length_mergeSort]
      rw [hts] at HCS'
      have HCS := jb.mk HCS'
      have HTS := jb.mk hts
      have hcle := Lib.compact_length_le ts
      rw [HCS'] at hcle
      clear HCS' hts
      obtain ⟨hl0, hq⟩ := R1.out.2.1
      rcases hq with ⟨_, z⟩ | ⟨g, cap, cur, ev, hb, hh, hnc, hm, hs, ht⟩
      · omega
      · subst ev
        have hold := holds_of_blockI (ss := zs) hh (by rwa [Nat.mul_one] at ht)
        have H84 := jb.mk (Tryz.slices_Sort_int g 0 cap zs wr hold (blk_lt hh) (by omega))
        have F84 : jb (∀ n os, (Go.Sort.grow (Go.Sort.putRow (Value.int .i64) (Go.Sort.ahead wr n) g 0 (zs.mergeSort fun x y => decide (x ≤ y)).toArray) os).ownsRow w.heap.size 3 1 (.slice (some ⟨g, 0, none⟩) zs.length cap) zs.length (ts.map (Value.int .i64)) ∧ Below w.heap.size w (Go.Sort.grow (Go.Sort.putRow (Value.int .i64) (Go.Sort.ahead wr n) g 0 (zs.mergeSort fun x y => decide (x ≤ y)).toArray) os)) := ⟨fun n os => by
          rw [HTS.out]
          exact ⟨ownsRow_sortedI (ss := zs) htl hb hh hnc hm hs, R1.out.1.grown (grownBy_sortedI _) R1.out.1.size (fun k e => by cases e; exact hb)⟩⟩
        have F85 : jb (∀ W2 : World, W2.ownsRow w.heap.size 3 1 (.slice (some ⟨g, 0, none⟩) zs.length cap) zs.length (ts.map (Value.int .i64)) → Below w.heap.size w W2 → Calls Tryz.prog 68 #[.slice (some ⟨g, 0, none⟩) zs.length cap] W2 fun e W3 => e = .returned (.slice (some ⟨g, 0, none⟩) cs.length cap) ∧ W3.ownsRow w.heap.size 3 1 (.slice (some ⟨g, 0, none⟩) cs.length cap) cs.length (cs.map (Value.int .i64)) ∧ Below w.heap.size w W3) := ⟨fun W2 hO hB => by
          obtain ⟨g', cap', e', _, _, _, _, _, hHo⟩ := Lib.holds_of_ownsRow (zs := ts) hO (by intro e; cases e)
          cases e'
          have := Tryz.slices_Compact_int g 0 cap ts W2 hHo (by omega) (by omega)
          rw [htl, HCS.out] at this
          refine this.mono ?_
          rintro e W3 ⟨rfl, q3, rfl⟩
          refine ⟨rfl, ?_, Lib.below_putRow hB hb⟩
          have o := Lib.ownsRow_putRow (q := q3) (ys := cs ++ List.replicate (zs.length - cs.length) 0) (k := cs.length) hO (by rw [List.length_append, List.length_replicate]; omega) (by omega)
          rwa [List.take_left] at o⟩
        have B1 := jb.mk R1.out.1
        have HZL := jb.mk hzl
        clear R1 hold hh ht hs hl0 hzl htl
        go_wp2_with (first
          | (go_at_call 67; ((with_reducible refine H84.out.mono ?_); rintro e W2 ⟨rfl, n2, os2, hW2⟩; have O2 := jb.mk (F84.out n2 os2); rw [← hW2] at O2; clear hW2 H84))
          | (go_at_call 68; (with_reducible refine (F85.out _ O2.out.1 O2.out.2).mono ?_); rintro e W3 ⟨rfl, o3, b3⟩; have O3 := jb.mk o3; have B3 := jb.mk b3; clear o3 b3 O2))
        have HCL2 := HCL.out
        have R0 : jb (RRx w W3 (.slice none 0 0) (rpRows lw (cs.take 0))) := ⟨(RRx.start w).step B3.out⟩
        go_loopg [53, 11] (cs.length) (fun gg v53 v11 wr => ∃ (y : Int), v53 = .int .i64 y ∧ jb (0 ≤ y) ∧ jb (y ≤ (cs.length : Int)) ∧ jb (cs.length - y.toNat ≤ gg) ∧ jb (RRx w wr v11 (rpRows lw (cs.take y.toNat))) ∧ jb (wr.ownsRow w.heap.size 3 1 (.slice (some ⟨g, 0, none⟩) cs.length cap) cs.length (cs.map (Value.int .i64))))
        case atStart => exact ⟨0, rfl, ⟨by omega⟩, ⟨by omega⟩, ⟨by omega⟩, R0, O3⟩
        case round =>
          clear R0 O3 B3
          obtain ⟨y, rfl, Y0, Y1, YG, R1, O1⟩ := hrel
          by_cases hlt : y < (cs.length : Int)
          · have y0 : (0 : Int) ≤ y := Y0.out
            have hyl : y.toNat < cs.length := by omega
            obtain ⟨n, hnn⟩ : ∃ n, cs[y.toNat]? = some n := ⟨cs[y.toNat], List.getElem?_eq_getElem hyl⟩
            have hcell : wr.cell? ⟨g, y.toNat, none⟩ = some (.int .i64 n) := by
              rw [O1.out.cellAt y.toNat (by omega), List.getElem?_map, hnn]; rfl
            have hmem : n ∈ cs := List.mem_of_getElem? hnn
            have HLN := jb.mk (HL.out n hmem)
            have HT : jb (rpRows lw (cs.take (y.toNat + 1)) = rpRows lw (cs.take y.toNat) ++ [[(lw n).1, (lw n).2]]) := ⟨by rw [List.take_add_one, hnn]; simp [rpRows]⟩
            obtain ⟨rs, hrs⟩ : ∃ rs, rpRows lw (cs.take y.toNat) = rs := ⟨_, rfl⟩
            have hrl : jb (rs.length ≤ 1000) := ⟨by rw [← hrs]; simp [rpRows]; omega⟩
            rw [hrs] at R1 HT
            clear hrs
            generalize (lw n).1 = num at HLN HT
            generalize (lw n).2 = den at HLN HT
            have hT2 : (y + 1).toNat = y.toNat + 1 := by omega
            have HT2 := jb.mk hT2
            clear hT2 hmem hnn hyl
            go_wp2_with (first
              | (go_at_call 40; (with_reducible refine (impl_lowest.calls K n x num den _ HLN.out).mono ?_); rintro e W4 ⟨rfl, hb4⟩; obtain ⟨gs, hG⟩ := R1.out.step hb4; have G4 := jb.mk hG; have O4 := jb.mk (pw_own_below O1.out hb4); clear hG hb4 R1 O1)
              | ((with_reducible refine gate_builtin (b := .append) (xs := #[.tmp 63, .tmp 67]) rfl ?_); at_builtin; refine print_append_cells (w0 := w) (W := W4.alloc (.cells #[.int .i64 num, .int .i64 den] 3)) w.heap.size rfl (.tmp 63) (.tmp 67) 28 35 (.slice none 0 0) 1 24 rfl Tryz.underlying28 info35 rfl (by decide) (by omega) u11 rs.length (gs.map fun g => .slice (some ⟨g, 0, none⟩) 2 2) [.slice (some ⟨W4.heap.size, 0, none⟩) 2 2] rfl ?hx rfl ?h1 ?HO ?HB ?hb ?hl ?_; (case hx => (show Value.slice (some ⟨W4.heap.size + 1, 0, none⟩) 1 1 = _; rw [World.size_alloc])); (case h1 => (intro u hu; rw [List.mem_singleton.1 hu]; rfl)); (case HO => exact G4.out.2.2.1.alloc _); (case HB => exact qb G4.out.1 _); (case hb => (rw [World.size_alloc]; have := G4.out.1.size; omega)); (case hl => have := hrl.out; omega); intro v1 w1 ho hb' hg hat; have HPU := jb.mk (show RRx w w1 v1 (rs ++ [[num, den]]) from G4.out.push [num, den] rfl ho hb' hg hat); have O5 := jb.mk (own_grownX (own_grownX0 O4.out _) hg (fun kk e1 e2 => own_ne2 O4.out G4.out.2.2.1 kk e1 e2)); clear ho hb' hg hat G4 O4))
            have hy1 : wrap64 (y + 1) = y + 1 := by unfold wrap64; omega
            go_roundg (cs.length - (y + 1).toNat)
            case measure => have := YG.out; omega
            case rel => exact ⟨y + 1, by first | rfl | rw [hy1] | simp [hy1], ⟨by omega⟩, ⟨by omega⟩, ⟨by omega⟩, ⟨by rw [HT2.out, HT.out]; exact HPU.out⟩, O5⟩
          · have e : y = (cs.length : Int) := by have := Y1.out; omega
            have R2 : jb (RRx w wr u11 (rpRows lw cs)) := ⟨by have := R1.out; rwa [show y.toNat = cs.length by omega, List.take_length] at this⟩
            clear R1
            go_wp2_with fail
            go_ret
            exact ⟨_, rfl, R2.out⟩
end Go.Proofs.YtfaccdafldbjcaaGreat.OFnWalkersRound
