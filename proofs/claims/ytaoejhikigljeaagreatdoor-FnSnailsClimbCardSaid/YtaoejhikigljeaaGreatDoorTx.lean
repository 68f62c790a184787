/- Numbers written and joined, read and split: contracts over this program. -/
import Derived.Test.YtaoejhikigljeaaGreatDoorShelf
import Derived.Test.YtaoejhikigljeaaGreatDoorTxP
import Derived.Lib.AtoiErrMem
import Derived.Below
import Derived.Deep.Draws
import Derived.Deep.AppendLies
import Derived.Maps.AppendAt
import Derived.OwnWalk
import Derived.Laws.BytesArg
import Derived.Laws.MakeOwn
import Derived.Laws.OwnMore
import Derived.Deep.OwnRows
import Derived.Tactics
import Derived.Lib.ConvBytes
import Derived.Laws.Slices
import Derived.WalkKit
import Derived.KernelRfl
import Derived.RowKit3
import Derived.Deep.LoopGhost
import Derived.Deep.QuietTactic
import Derived.BigQuiet
import Derived.WideLaws
import Derived.Deep.DeepCutAuto
import Derived.Deep.CutBlock
import Derived.Deep.RegionHeld3
import Derived.Laws.Rows
import Derived.Lib.AppendStr
import Derived.ArgAppend
import Derived.Laws.IdiomCopy
import Derived.OrdersHeld
import Derived.Laws.BitsLemmas
import Derived.RowKit
import Derived.Shelf.Abstract
import Derived.Lib.AppendIntMem
import Derived.Test.YtaoejhikigljeaaGreatDoorWWords
import Derived.Test.YtaoejhikigljeaaGreatDoorWLast
import Derived.Test.YtaoejhikigljeaaGreatDoorWTab
import Derived.Test.YtaoejhikigljeaaGreatDoorWKept
import Derived.Test.YtaoejhikigljeaaGreatDoorWMore
import Derived.Test.YtaoejhikigljeaaGreatDoorWApart
import Derived.Test.YtaoejhikigljeaaGreatDoorWZeros
import Derived.Test.YtaoejhikigljeaaGreatDoorWFoot
namespace Go.Proofs.YtaoejhikigljeaaGreatDoor.Tx
open Go.RowKit Go.Proofs.YtaoejhikigljeaaGreatDoorW.PrintWords Go.Proofs.YtaoejhikigljeaaGreatDoorW.PrintLast Go.Proofs.YtaoejhikigljeaaGreatDoorW.PrintMore
set_option linter.unusedVariables false
set_option linter.unusedSimpArgs false
/-- What the walk may lean on: the table of powers of ten, as the program's text lays it. -/
structure T1 (w : World) : Prop where
  tab : Lib.TabIs Tryz.prog w "internal/strconv.uint64pow10" .u64 Lib.pow10Tab
theorem var_below {P : Program} {w w' : World} {n : String} {cs : Array Value} (h : w.var? P n = some cs) (hb : Below w.heap.size w w') : w'.var? P n = some cs := by
  unfold World.var? at h ⊢
  cases hg : P.globalNamed n with
  | none => rw [hg] at h; simp at h
  | some g =>
    rw [hg] at h
    simp only [Option.bind_some] at h ⊢
    cases ho : w.heap[g]? with
    | none => rw [ho] at h; simp at h
    | some o => rw [hb.block g (blk_lt ho)]; exact h
theorem T1.step {w w' : World} (h : T1 w) (hb : Below w.heap.size w w') : T1 w' := ⟨var_below h.tab hb⟩
/-- Behind w: base's blocks as they were, the row gb holds l, w's other blocks as they were. -/
def SoW (base : Nat) (gb : Nat) (t : TypeId) (w : World) (l : List Value) (W : World) : Prop :=
  base ≤ gb ∧ Below base w W ∧ W.heap[gb]? = some (.cells l.toArray t (0, 0)) ∧ ∀ k, k < w.heap.size → k ≠ gb → W.heap[k]? = w.heap[k]?
section
variable {base gb : Nat} {t : TypeId} {w W W' : World} {l : List Value}
theorem SoW.grow (h : SoW base gb t w l W) (hb : Below W.heap.size W W') : SoW base gb t w l W' := by
  obtain ⟨h0, h1, h2, h3⟩ := h
  have lt := blk_lt h2
  exact ⟨h0, h1.trans (hb.mono (by omega)), blk_below h2 hb, fun k hk hne => (hb.block k (Nat.lt_of_lt_of_le hk h1.size)).trans (h3 k hk hne)⟩
theorem SoW.fr (h : SoW base gb t w l W) (j : Nat) : W.frozen? ⟨gb, j, none⟩ = false := blk_frozen h.2.2.1 j
theorem SoW.at (h : SoW base gb t w l W) (j : Nat) (hj : j < l.length) : W.cell? ⟨gb, j, none⟩ = some (l.getD j undef) := by
  rw [blk_cell h.2.2.1 j]; simp [List.getD_eq_getElem?_getD, hj]
theorem SoW.set (h : SoW base gb t w l W) (j : Nat) (v : Value) : SoW base gb t w (l.set j v) (W.setCell ⟨gb, j, none⟩ v) := by
  obtain ⟨h0, h1, h2, h3⟩ := h
  refine ⟨h0, h1.setCell h0 _, ?_, fun k hk hne => (Below.heap_setCell W ⟨gb, j, none⟩ v k hne).trans (h3 k hk hne)⟩
  rw [blk_set h2 j v]; simp
end
theorem print_makeS {P : Program} (t e : TypeId) (ht : P.underlying t = some (.slice e)) (hinfo : (P.info? e).map (fun i => (i.zero, i.size, i.bytes)) = some (some (.string ByteArray.empty), 1, 16)) (m : Nat) (hn : m * 16 ≤ 281474976710656) :
    ∀ W : World, (Instr.makeSlice t (.int .i64 (m : Int)) (.int .i64 (m : Int))).run P W = .ok (.slice (some ⟨W.heap.size, 0, none⟩) m m) (W.alloc (.cells (madeCells #[.string ByteArray.empty] m) e)) := by
  intro W
  exact run_make_row' t e (.string ByteArray.empty) 16 ht hinfo rfl .i64 .i64 m (by omega) (by omega) W
theorem stringInfo : (Tryz.prog.info? 9).map (fun i => (i.zero, i.size, i.bytes)) = some (some (.string ByteArray.empty), 1, 16) := by kernel_rfl
/-- Texts laid so far, in a row of n. -/
def prt (xs : List ByteArray) (n : Nat) (k : Nat) : List Value := (xs.take k).map Value.string ++ List.replicate (n - k) (.string ByteArray.empty)
theorem prt_length (xs : List ByteArray) (k : Nat) (hk : k ≤ xs.length) : (prt xs xs.length k).length = xs.length := by simp [prt]; omega
theorem prt_zero (xs : List ByteArray) (n : Nat) : (prt xs n 0).toArray = madeCells #[.string ByteArray.empty] n := by
  apply Array.ext
  · simp [prt, madeCells]
  · intro i h1 h2; simp [prt, madeCells, Nat.mod_one]
theorem prt_set (xs : List ByteArray) (k : Nat) (hk : k < xs.length) (s : ByteArray) (hs : xs.getD k ByteArray.empty = s) : (prt xs xs.length k).set k (.string s) = prt xs xs.length (k + 1) := by
  have e : xs.length - k = (xs.length - (k + 1)) + 1 := by omega
  have g : xs[k] = s := by rw [← hs]; simp [List.getD_eq_getElem?_getD, hk]
  unfold prt
  rw [e, List.replicate_succ, List.set_append_right _ _ (by simp; omega)]
  have e2 : k - ((xs.take k).map Value.string).length = 0 := by simp; omega
  rw [e2, List.set_cons_zero, List.take_succ_eq_append_getElem hk, List.map_append, g]
  simp
theorem prt_all (xs : List ByteArray) : prt xs xs.length xs.length = xs.map Value.string := by simp [prt]
theorem prt_cells (xs : List ByteArray) (W : World) (gb : Nat) (h : W.heap[gb]? = some (.cells (prt xs xs.length xs.length).toArray 9 (0, 0))) : ∀ (j : Nat) x, xs[j]? = some x → W.cell? ⟨gb, 0 + j, none⟩ = some (.string x) := by
  intro j x hx
  rw [Nat.zero_add, blk_cell h j, prt_all]
  simp [hx]
def strs (l : List Int) : List ByteArray := l.map fun n => ⟨(Lib.itoa n).toArray⟩
theorem strs_len (l : List Int) : (strs l).length = l.length := by simp [strs]
theorem strs_at (l : List Int) (k : Nat) (hk : k < l.length) : (strs l).getD k ByteArray.empty = ⟨(Lib.itoa (l.getD k 0)).toArray⟩ := by simp [strs, List.getD_eq_getElem?_getD, hk]
theorem made_prt (w : World) (xs : List ByteArray) (m : Nat) (hm : m = xs.length) :
    SoW w.heap.size w.heap.size 9 (w.alloc (.cells (madeCells #[.string ByteArray.empty] m) 9)) (prt xs xs.length 0) (w.alloc (.cells (madeCells #[.string ByteArray.empty] m) 9)) := by
  refine ⟨Nat.le_refl _, Below.refl _ _, ?_, fun _ _ _ => rfl⟩
  rw [prt_zero, ← hm]
  exact heap_alloc_new w _
set_option maxHeartbeats 8000000 in
set_option maxRecDepth 100000 in
/-- Numbers, joined. -/
theorem joinNumbers.calls (l : List Int) (hl : l.length ≤ 1000) (hb : ∀ n ∈ l, -9223372036854775808 ≤ n ∧ n ≤ 9223372036854775807) (sep : ByteArray) (x : Addr) (c : Nat) (w : World)
    (hc : ∀ j, j < l.length → w.cell? (x.add j) = some (.int .i64 (l.getD j 0))) (ht : T1 w) (hlen : (Lib.join ((strs l).map (·.data.toList)) sep.data.toList).length ≤ 140737488355328) :
    Calls Tryz.prog 48 #[.slice (some x) l.length c, .string sep] w fun e w' => e = .returned (.string ⟨(Lib.join ((strs l).map (·.data.toList)) sep.data.toList).toArray⟩) ∧ Below w.heap.size w w' := by
  have HC := Aside0.mk hc
  have HT := Aside0.mk ht
  have HBD := Aside0.mk hb
  have HLN := Aside0.mk hlen
  have hmk := print_makeS (P := Tryz.prog) 62 9 Tryz.underlying62 stringInfo l.length (by omega)
  clear hc ht hb hlen
  go_enter Tryz.func48, Tryz.ntmps48
  go_wp2
  have S0 := Aside0.mk (made_prt w (strs l) l.length (strs_len l).symm)
  have B0 := Aside0.mk (below_alloc (Below.refl w.heap.size w) (.cells (madeCells #[.string ByteArray.empty] l.length) 9))
  generalize w.alloc (.cells (madeCells #[.string ByteArray.empty] l.length) 9) = wm at S0 B0 ⊢
  obtain ⟨B, hB⟩ : ∃ q, w.heap.size = q := ⟨_, rfl⟩
  rw [hB] at S0 ⊢
  clear hmk
  go_loopg [13] l.length (fun gg v13 wr => ∃ kk : Nat, v13 = .int .i64 kk ∧ kk ≤ l.length ∧ l.length - kk ≤ gg ∧ Aside0 (SoW B B 9 wm (prt (strs l) (strs l).length kk) wr))
  case atStart => exact ⟨0, by go_num, by omega, by omega, S0⟩
  case round =>
    clear S0
    obtain ⟨kk, rfl, hkk, hgg, S1⟩ := hrel
    have BW : Aside0 (Below w.heap.size w wr) := ⟨B0.out.trans (by rw [hB]; exact S1.out.2.1)⟩
    by_cases hlt : kk < l.length
    · have hltz : (kk : Int) < (l.length : Int) := by omega
      have c0 : wr.cell? (x.add kk) = some (.int .i64 (l.getD kk 0)) := (BW.out.cell (World.block_lt_of_cell? _ _ (HC.out kk hlt))).trans (HC.out kk hlt)
      have TW : Aside0 (T1 wr) := ⟨HT.out.step BW.out⟩
      have HBN : Aside0 (-9223372036854775808 ≤ l.getD kk 0 ∧ l.getD kk 0 ≤ 9223372036854775807) := ⟨HBD.out _ (by simp [List.getD_eq_getElem?_getD, hlt])⟩
      have HSA := Aside0.mk (strs_at l kk hlt)
      generalize hn : l.getD kk 0 = nn at c0 HBN HSA
      clear hn
      go_wp2_with (first | (go_at_call 65; (with_reducible refine (Tryz.strconv_Itoa nn HBN.out.1 HBN.out.2 _ TW.out.tab).mono ?_); rintro e w2 ⟨rfl, k2, os2, hw2⟩; have G2 := Aside0.mk (hw2 ▸ Lib.below_grow wr.heap.size wr (Nat.le_refl _) k2 os2); clear hw2; have S2 := Aside0.mk (S1.out.grow G2.out); have f2 := S2.out.fr kk; have c2 := S2.out.at kk (by rw [prt_length _ _ (by rw [strs_len]; exact hkk), strs_len]; exact hlt)))
      have S3 := Aside0.mk (prt_set (strs l) kk (by rw [strs_len]; exact hlt) _ HSA.out ▸ S2.out.set kk (.string ⟨(Lib.itoa nn).toArray⟩))
      go_roundg (l.length - (kk + 1))
      case measure => omega
      case rel => exact ⟨kk + 1, by go_num, by omega, by omega, S3⟩
    · have hltz : ¬ (kk : Int) < (l.length : Int) := by omega
      have e : kk = l.length := by omega
      have HS := Aside0.mk ((show kk = (strs l).length by rw [strs_len]; exact e) ▸ S1.out)
      have HQ := Aside0.mk (Tryz.strings_Join B 0 l.length (strs l) sep wr (prt_cells _ _ _ HS.out.2.2.1) (blk_lt HS.out.2.2.1) (by rw [strs_len]; omega) (by rw [strs_len]; omega) HLN.out)
      rw [strs_len] at HQ
      clear S1
      go_wp2_with (go_at_call 66; (with_reducible refine HQ.out.mono ?_); rintro e w2 ⟨rfl, hb2⟩; have BQ := Aside0.mk hb2; clear hb2)
      go_ret
      exact ⟨rfl, BW.out.trans (BQ.out.mono BW.out.size)⟩
/-- Two numbers with a text between them. -/
def j2 (a b : Int) (sep : List UInt8) : List UInt8 := Lib.join [Lib.itoa a, Lib.itoa b] sep
theorem j2_eq (a b : Int) (sep : List UInt8) : j2 a b sep = Lib.itoa a ++ (sep ++ Lib.itoa b) := by simp [j2, Lib.join, List.intercalate]
theorem j2_len (a b : Int) (ha : -1000000000 ≤ a ∧ a ≤ 1000000000) (hb : -1000000000 ≤ b ∧ b ≤ 1000000000) (sep : List UInt8) (hs : sep.length ≤ 4) : (j2 a b sep).length ≤ 46 := by
  rw [j2_eq]
  have h1 := Lib.itoa_length_le a (by omega) (by omega)
  have h2 := Lib.itoa_length_le b (by omega) (by omega)
  simp only [List.length_append]
  omega
theorem join2.calls (a b : Int) (ha : -1000000000 ≤ a ∧ a ≤ 1000000000) (hb : -1000000000 ≤ b ∧ b ≤ 1000000000) (sep : ByteArray) (hs : sep.data.toList.length ≤ 4) (g c : Nat) (w : World)
    (h : w.heap[g]? = some (.cells #[.int .i64 a, .int .i64 b] 3 (0, 0))) (ht : T1 w) :
    Calls Tryz.prog 48 #[.slice (some ⟨g, 0, none⟩) 2 c, .string sep] w fun e w' => e = .returned (.string ⟨(j2 a b sep.data.toList).toArray⟩) ∧ Below w.heap.size w w' := by
  have e : (strs [a, b]).map (·.data.toList) = [Lib.itoa a, Lib.itoa b] := by simp [strs]
  have := joinNumbers.calls [a, b] (by simp) (by intro n hn; simp at hn; rcases hn with rfl | rfl <;> omega) sep ⟨g, 0, none⟩ c w (fun j hj => ?_) ht (by rw [e]; have := j2_len a b ha hb _ hs; unfold j2 at this; omega)
  · rw [e] at this; exact this
  · have hj' : j = 0 ∨ j = 1 := by simp at hj; omega
    rcases hj' with rfl | rfl
    · exact (blk_cell h 0).trans rfl
    · exact (blk_cell h 1).trans rfl
/-- What reading may lean on: the table, the two sentinel errors, a length. -/
structure T2 (w : World) : Prop where
  tab : Lib.TabIs Tryz.prog w "internal/strconv.uint64pow10" .u64 Lib.pow10Tab
  syn : ∃ tp p, w.var? Tryz.prog "strconv.ErrSyntax" = some #[.iface tp p]
  rng : ∃ tp p, w.var? Tryz.prog "strconv.ErrRange" = some #[.iface tp p]
  ml : ∃ m : Int, w.cell? ⟨1, 0, none⟩ = some (.int .i64 m)
theorem T2.step {w w' : World} (h : T2 w) (hb : Below w.heap.size w w') : T2 w' := by
  obtain ⟨h1, ⟨a, b, h2⟩, ⟨c, d, h3⟩, ⟨m, h4⟩⟩ := h
  exact ⟨var_below h1 hb, ⟨a, b, var_below h2 hb⟩, ⟨c, d, var_below h3 hb⟩, ⟨m, (hb.cell (World.block_lt_of_cell? w _ h4)).trans h4⟩⟩
theorem T2.one {w : World} (h : T2 w) : T1 w := ⟨h.tab⟩
theorem below_bytes (w : World) (t : TypeId) (s : ByteArray) : Below w.heap.size w (Lib.bytesWorld w t s) := Lib.bytesWorld_below w t s
theorem bs_ne {l : List UInt8} {s : ByteArray} (h : l ≠ s.data.toList) : ((⟨l.toArray⟩ : ByteArray).toList == s.toList) = false := by
  rw [Lib.toList_data, Lib.toList_data, beq_eq_false_iff_ne]
  exact h
set_option maxHeartbeats 8000000 in
set_option maxRecDepth 100000 in
theorem readNumber.yes (s : ByteArray) (hs : s.size ≤ 281474976710656) (v : Int) (hv : canon s.data.toList = some v) (w : World) (ht : T2 w) :
    Calls Tryz.prog 69 #[.string s] w fun e w' => e = .returned (.tuple #[.int .i64 v, .bool true]) ∧ Below w.heap.size w w' := by
  obtain ⟨he, h0, h1⟩ := canon_some hv
  have hok : Lib.atoiAll s.data.toList = .ok v := by rw [he]; exact atoi_itoa v h0 h1
  have hmk : (⟨(Lib.itoa v).toArray⟩ : ByteArray) = s := by rw [← he]
  have HA := Aside0.mk (Tryz.strconv_Atoi_ok s (by omega) v hok w)
  have HT := Aside0.mk ht
  have HMK := Aside0.mk hmk
  have HB := Aside0.mk (show -9223372036854775808 ≤ v ∧ v ≤ 9223372036854775807 from ⟨h0, h1⟩)
  clear he hok hv hmk ht h0 h1
  go_enter Tryz.func69, Tryz.ntmps69
  go_wp2_with (first
    | (go_at_call 76; (with_reducible refine HA.out.mono ?_); rintro e w1 ⟨rfl, hw1⟩; have B1 : Aside0 (Below w.heap.size w w1) := ⟨by rcases hw1 with rfl | ⟨t, rfl⟩; exact Below.refl _ _; exact below_bytes _ _ _⟩; clear hw1)
    | (go_at_call 65; (with_reducible refine (Tryz.strconv_Itoa v HB.out.1 HB.out.2 _ (HT.out.step B1.out).tab).mono ?_); rintro e w2 ⟨rfl, k2, os2, hw2⟩; have G2 := Aside0.mk (hw2 ▸ Lib.below_grow w1.heap.size w1 (Nat.le_refl _) k2 os2); clear hw2; rw [HMK.out]))
  go_ret2
  exact ⟨rfl, B1.out.trans (G2.out.mono B1.out.size)⟩
set_option maxHeartbeats 8000000 in
set_option maxRecDepth 100000 in
theorem readNumber.no (s : ByteArray) (hs : s.size ≤ 281474976710656) (hv : canon s.data.toList = none) (w : World) (ht : T2 w) :
    Calls Tryz.prog 69 #[.string s] w fun e w' => e = .returned (.tuple #[.int .i64 0, .bool false]) ∧ Below w.heap.size w w' := by
  cases hh : Lib.atoiAll s.data.toList
  · rename_i v
    have hne : Lib.itoa v ≠ s.data.toList := by
      intro e
      unfold canon at hv
      rw [hh] at hv
      simp only [if_pos e] at hv
      cases hv
    have hbd := Lib.atoiAll_bounds hh
    have HA := Aside0.mk (Tryz.strconv_Atoi_ok s (by omega) v hh w)
    have HT := Aside0.mk ht
    have HB := Aside0.mk hbd
    have hq := bs_ne hne
    clear hv ht hh hne hbd
    go_enter Tryz.func69, Tryz.ntmps69
    generalize hS : (⟨(Lib.itoa v).toArray⟩ : ByteArray) = S at hq
    have HS := Aside0.mk hS
    clear hS
    go_wp2_with (first
      | (go_at_call 76; (with_reducible refine HA.out.mono ?_); rintro e w1 ⟨rfl, hw1⟩; have B1 : Aside0 (Below w.heap.size w w1) := ⟨by rcases hw1 with rfl | ⟨t, rfl⟩; exact Below.refl _ _; exact below_bytes _ _ _⟩; clear hw1)
      | (go_at_call 65; (with_reducible refine (Tryz.strconv_Itoa v HB.out.1 HB.out.2 _ (HT.out.step B1.out).tab).mono ?_); rintro e w2 ⟨rfl, k2, os2, hw2⟩; have G2 := Aside0.mk (hw2 ▸ Lib.below_grow w1.heap.size w1 (Nat.le_refl _) k2 os2); clear hw2; rw [HS.out]))
    go_ret2
    exact ⟨rfl, B1.out.trans (G2.out.mono B1.out.size)⟩
  · obtain ⟨tp, p, hvar⟩ := ht.syn
    have HA := Aside0.mk (show Calls Tryz.prog 76 #[.string s] w fun e w' => ∃ N, e = .returned (.tuple #[.int .i64 0, .iface 99 (.pointer (some ⟨N, 0, none⟩))]) ∧ w.heap.size ≤ N ∧ w'.heap[N]? = some (.cells #[.string ⟨#[65, 116, 111, 105]⟩, .string s, .iface tp p] 111 (0, 0)) ∧ Below w.heap.size w w' from Any.strconv_Atoi_syntax_var Tryz.laysC172 s hs hh tp p w hvar)
    clear hv ht hh hvar
    go_enter Tryz.func69, Tryz.ntmps69
    go_wp2_with (go_at_call 76; (with_reducible refine HA.out.mono ?_); rintro e w1 ⟨N, rfl, hN, hc, hb⟩; have B1 := Aside0.mk hb; clear hb hc hN)
    go_ret2
    exact ⟨rfl, B1.out⟩
  · obtain ⟨tp, p, hvar⟩ := ht.rng
    have HA := Aside0.mk (Tryz.strconv_Atoi_range_var s hs hh tp p w hvar)
    clear hv ht hh hvar
    go_enter Tryz.func69, Tryz.ntmps69
    go_wp2_with (go_at_call 76; (with_reducible refine HA.out.mono ?_); rintro e w1 ⟨N, rfl, hN, hc, hb⟩; have B1 := Aside0.mk hb; clear hb hc hN)
    go_ret2
    exact ⟨rfl, B1.out⟩
/-- strings.Split at a separator of one byte. -/
theorem split_at (s : ByteArray) (c : UInt8) (hs : s.size < 4294967281) (w : World) (ht : T2 w) :
    Calls Tryz.prog 68 #[.string s, .string ⟨#[c]⟩] w fun e w' => e = .returned (.slice (some ⟨w.heap.size, 0, none⟩) (spl c s.data.toList).length (spl c s.data.toList).length) ∧ w' = w.alloc (.cells ((spl c s.data.toList).map fun p => Value.string (bs p)).toArray 9) := by
  obtain ⟨m, hm⟩ := ht.ml
  have := Tryz.strings_Split s ⟨#[c]⟩ m w hs hm (by simp [ByteArray.size])
  rw [splitB_bs, List.map_map] at this
  have e := splitB_count c s
  rw [e] at this
  exact this
/-- The row of numbers that the call has built; beside it a row of texts. -/
def SN (w0 W : World) (v : Value) (zs : List Int) (B : Nat) (o : Obj) : Prop := Below w0.heap.size w0 W ∧ W.ownsRow w0.heap.size 3 1 v zs.length (zs.map (Value.int .i64)) ∧ W.heap[B]? = some o
theorem SN.step {w0 W W' : World} {v : Value} {zs : List Int} {B : Nat} {o : Obj} (h : SN w0 W v zs B o) (hb : Below W.heap.size W W') : SN w0 W' v zs B o :=
  ⟨h.1.trans (hb.mono h.1.size), pw_own_below h.2.1 hb, blk_below h.2.2 hb⟩
theorem intInfo : (Tryz.prog.info? 3).map (fun i => (i.zero, i.size, i.bytes)) = some (some (.int .i64 0), 1, 8) := by kernel_rfl
def RdPost (r : Option (List Int)) (w : World) (e : Ending) (w' : World) : Prop :=
  (∃ ns v, r = some ns ∧ e = .returned (.tuple #[v, .bool true]) ∧ w'.ownsRow w.heap.size 3 1 v ns.length (ns.map (Value.int .i64)) ∧ Below w.heap.size w w') ∨
  (r = none ∧ e = .returned (.tuple #[.slice none 0 0, .bool false]) ∧ Below w.heap.size w w')
set_option maxHeartbeats 8000000 in
set_option maxRecDepth 100000 in
theorem readNumbers.calls (s : ByteArray) (c : UInt8) (hs : s.size ≤ 2000000) (w : World) (ht : T2 w) :
    Calls Tryz.prog 51 #[.string s, .string ⟨#[c]⟩] w (RdPost (rdN (spl c s.data.toList)) w) := by
  have hsz : s.data.toList.length = s.size := (Lib.size_eq s).symm
  have hn := spl_length_le c s.data.toList []
  have hm := spla_mem_le c s.data.toList []
  rw [show spla c [] s.data.toList = spl c s.data.toList from rfl] at hn hm
  have HSP := Aside0.mk (split_at s c (by omega) w ht)
  have HT := Aside0.mk ht
  have HM : Aside0 (∀ p ∈ spl c s.data.toList, p.length ≤ 2000000) := ⟨fun p hp => by have := hm p hp; simp at this; omega⟩
  have HN : Aside0 ((spl c s.data.toList).length ≤ 2000001) := ⟨by omega⟩
  clear hsz hn hm ht
  generalize hP : spl c s.data.toList = ps at *
  clear hP
  have mixed : Tryz.prog.follows .mixedOrders = true := by kernel_rfl
  have hpl : ps.length ≤ 2000001 := HN.out
  go_enter Tryz.func51, Tryz.ntmps51
  go_wp2_with (go_at_call 68; (with_reducible refine HSP.out.mono ?_); rintro e w1 ⟨rfl, rfl⟩)
  have S0 : Aside0 (SN w (w.alloc (.cells (ps.map fun p => Value.string (bs p)).toArray 9)) (.slice none 0 0) [] w.heap.size (.cells (ps.map fun p => Value.string (bs p)).toArray 9 (0, 0))) := ⟨below_alloc (Below.refl _ _) _, own_nil _ _ _ _, heap_alloc_new w _⟩
  generalize w.alloc (.cells (ps.map fun p => Value.string (bs p)).toArray 9) = wm at S0 ⊢
  clear HSP
  go_loopg [15, 6] ps.length (fun gg v15 v6 wr => ∃ (kk : Nat) (ns : List Int), v15 = .int .i64 kk ∧ kk ≤ ps.length ∧ ps.length - kk ≤ gg ∧ Aside0 (rdN (ps.take kk) = some ns) ∧ Aside0 (SN w wr v6 ns w.heap.size (.cells (ps.map fun p => Value.string (bs p)).toArray 9 (0, 0))))
  case atStart => exact ⟨0, [], by go_num, by omega, by omega, ⟨rfl⟩, S0⟩
  case round =>
    clear S0
    obtain ⟨kk, ns, rfl, hkk, hgg, E1, S1⟩ := hrel
    by_cases hlt : kk < ps.length
    · have hltz : (kk : Int) < (ps.length : Int) := by omega
      have c0 : wr.cell? ⟨w.heap.size, kk, none⟩ = some (.string (bs ps[kk])) := by rw [blk_cell S1.out.2.2 kk]; simp [hlt]
      have TW : Aside0 (T2 wr) := ⟨HT.out.step S1.out.1⟩
      have hpm : ps[kk].length ≤ 2000000 := HM.out _ (List.getElem_mem _)
      have HPS : Aside0 ((bs ps[kk]).size ≤ 281474976710656) := ⟨by rw [bs_size]; omega⟩
      have HTK : Aside0 (ps.take (kk + 1) = ps.take kk ++ [ps[kk]]) := ⟨List.take_succ_eq_append_getElem hlt⟩
      have HDR : Aside0 (ps = ps.take kk ++ ps[kk] :: ps.drop (kk + 1)) := ⟨by rw [← List.drop_eq_getElem_cons hlt, List.take_append_drop]⟩
      have HNS : Aside0 (ns.length ≤ 2000001) := ⟨by have := rdN_len E1.out; rw [List.length_take] at this; omega⟩
      clear hpm
      generalize hpp : ps[kk] = pp at c0 HPS HTK HDR
      clear hpp
      cases hcn : canon pp with
      | none =>
        have HCN : Aside0 (canon (bs pp).data.toList = none) := ⟨by rw [bs_data]; exact hcn⟩
        have HRN : Aside0 (rdN ps = none) := ⟨by rw [HDR.out]; exact rdN_none_at _ _ _ hcn⟩
        clear hcn HTK HDR
        generalize bs pp = bp at c0 HPS HCN
        go_wp2_with (go_at_call 69; (with_reducible refine (readNumber.no bp HPS.out HCN.out _ TW.out).mono ?_); rintro e w2 ⟨rfl, hb2⟩; have B2 := Aside0.mk hb2; clear hb2)
        go_ret2
        exact Or.inr ⟨HRN.out, rfl, S1.out.1.trans (B2.out.mono S1.out.1.size)⟩
      | some q =>
        have HCN : Aside0 (canon (bs pp).data.toList = some q) := ⟨by rw [bs_data]; exact hcn⟩
        have HRN : Aside0 (rdN (ps.take (kk + 1)) = some (ns ++ [q])) := ⟨by rw [HTK.out]; exact rdN_snoc _ _ _ _ E1.out hcn⟩
        clear hcn HTK HDR
        generalize bs pp = bp at c0 HPS HCN
        go_wp2_with (first
          | (go_at_call 69; (with_reducible refine (readNumber.yes bp HPS.out q HCN.out _ TW.out).mono ?_); rintro e w2 ⟨rfl, hb2⟩; have S2 := Aside0.mk (S1.out.step hb2); clear hb2)
          | ((with_reducible refine gate_builtin (b := .append) (xs := #[.tmp 26, .tmp 28]) rfl ?_); at_builtin; refine print_append_cells (w0 := w) (W := w2) w.heap.size rfl (.tmp 26) (.tmp 28) 48 3 (.int .i64 0) 1 8 rfl Tryz.underlying48 intInfo rfl (by decide) (by omega) u6 ns.length (ns.map (Value.int .i64)) [.int .i64 q] rfl ?hx rfl ?h1 ?HO ?HB ?hb ?hl ?_; (case hx => rfl); (case h1 => (intro u hu; rw [List.mem_singleton.1 hu]; rfl)); (case HO => exact S2.out.2.1); (case HB => exact S2.out.1); (case hb => exact S2.out.1.size); (case hl => have := HNS.out; omega); intro v1 w3 ho hb hg hat; have S3 := Aside0.mk (show SN w w3 v1 (ns ++ [q]) w.heap.size (.cells (ps.map fun p => Value.string (bs p)).toArray 9 (0, 0)) from ⟨hb, by simpa using ho, (hg.block w.heap.size (blk_lt S2.out.2.2) (own_ne S2.out.2.1 S2.out.2.2 (by decide))).trans S2.out.2.2⟩); clear ho hb hg hat S2))
        go_roundg (ps.length - (kk + 1))
        case measure => omega
        case rel => exact ⟨kk + 1, ns ++ [q], by go_num, by omega, by omega, HRN, S3⟩
    · have hltz : ¬ (kk : Int) < (ps.length : Int) := by omega
      have e : kk = ps.length := by omega
      have E2 : Aside0 (rdN ps = some ns) := ⟨by have := E1.out; rwa [e, List.take_length] at this⟩
      go_wp2_with fail
      go_ret2
      exact Or.inl ⟨ns, _, E2.out, rfl, S1.out.2.1, S1.out.1⟩
end Go.Proofs.YtaoejhikigljeaaGreatDoor.Tx
