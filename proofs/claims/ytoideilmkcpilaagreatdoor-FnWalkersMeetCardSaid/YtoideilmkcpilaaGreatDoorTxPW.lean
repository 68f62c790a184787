/- impl.ParseWalkers, walked by hand. -/
import Derived.Test.YtoideilmkcpilaaGreatDoorOFnWalkersMeetx0
import Derived.Test.YtoideilmkcpilaaGreatDoorOFnWalkersMeetx1
import Derived.Test.YtoideilmkcpilaaGreatDoorOFnWalkersMeetx10
import Derived.Test.YtoideilmkcpilaaGreatDoorOFnWalkersMeetx11
import Derived.Test.YtoideilmkcpilaaGreatDoorOFnWalkersMeetx12
import Derived.Test.YtoideilmkcpilaaGreatDoorOFnWalkersMeetx2
import Derived.Test.YtoideilmkcpilaaGreatDoorOFnWalkersMeetx3
import Derived.Test.YtoideilmkcpilaaGreatDoorOFnWalkersMeetx4
import Derived.Test.YtoideilmkcpilaaGreatDoorOFnWalkersMeetx5
import Derived.Test.YtoideilmkcpilaaGreatDoorOFnWalkersMeetx6
import Derived.Test.YtoideilmkcpilaaGreatDoorOFnWalkersMeetx7
import Derived.Test.YtoideilmkcpilaaGreatDoorOFnWalkersMeetx8
import Derived.Test.YtoideilmkcpilaaGreatDoorOFnWalkersMeetx9
import Derived.Test.YtoideilmkcpilaaGreatDoorTx
namespace Go.Proofs.YtoideilmkcpilaaGreatDoor.OFnWalkersMeet
open Go.RowKit Go.Proofs.YtoideilmkcpilaaGreatDoorW.PrintWords Go.Proofs.YtoideilmkcpilaaGreatDoorW.PrintLast Go.Proofs.YtoideilmkcpilaaGreatDoorW.PrintMore
set_option linter.unusedVariables false
set_option linter.unusedSimpArgs false
open Go.Proofs.YtoideilmkcpilaaGreatDoor.Tx
/-- The cells of a walker. -/
abbrev WQ (p : S25) (c : List Value) : Prop := c = [.int .i64 p.f0, .int .i64 p.f1]
/-- The row of walkers that the call has built; beside it a row of texts. -/
def SP (w W : World) (v : Value) (l : List S25) (B : Nat) (o : Obj) : Prop := Below w.heap.size w W ∧ OwnRow WQ 25 2 W w.heap.size v l ∧ W.heap[B]? = some o
theorem SP.step {w W W' : World} {v : Value} {l : List S25} {B : Nat} {o : Obj} (h : SP w W v l B o) (hb : Below W.heap.size W W') : SP w W' v l B o :=
  ⟨h.1.trans (hb.mono h.1.size), h.2.1.below hb, qu h.2.2 hb⟩
theorem OwnRow.toR {W : World} {base : Nat} {v : Value} {l : List S25} (h : OwnRow WQ 25 2 W base v l) : Kd.R k25 25 W base (fun _ => True) v l :=
  ⟨fun _ _ => trivial, h.imp_ (fun p c e => by subst e; exact k25_mkM _ _ _ _)⟩
theorem own_form {W : World} {base : Nat} {v : Value} {n : Nat} {xs : List Value} (h : W.ownsRow base 3 1 v n xs) : ∃ A c, v = .slice A n c := by
  obtain ⟨_, ⟨rfl, rfl⟩ | ⟨g, cap, cells, rfl, _⟩⟩ := h
  · exact ⟨none, 0, rfl⟩
  · exact ⟨_, _, rfl⟩
theorem own_two {W : World} {base : Nat} {v : Value} {p s : Int} (h : W.ownsRow base 3 1 v 2 [.int .i64 p, .int .i64 s]) :
    ∃ g cap, v = .slice (some ⟨g, 0, none⟩) 2 cap ∧ W.cell? ⟨g, 0, none⟩ = some (.int .i64 p) ∧ W.cell? ⟨g, 1, none⟩ = some (.int .i64 s) ∧ ∃ cells, W.heap[g]? = some (.cells cells 3 (0, 0)) := by
  obtain ⟨_, ⟨_, h0⟩ | ⟨g, cap, ⟨cells⟩, rfl, hb, hh, _, _, _, ht⟩⟩ := h
  · exact absurd h0 (by decide)
  · refine ⟨g, cap, rfl, ?_, ?_, _, hh⟩
    · rw [qh hh 0]
      have := congrArg (·[0]?) ht
      simpa [List.getElem?_take] using this
    · rw [qh hh 1]
      have := congrArg (·[1]?) ht
      simpa [List.getElem?_take] using this
theorem RdPost.no' {w : World} {e : Ending} {w' : World} (h : RdPost none w e w') : e = .returned (.tuple #[.slice none 0 0, .bool false]) ∧ Below w.heap.size w w' := by
  rcases h with ⟨ns, v, h, _⟩ | ⟨_, h⟩
  · cases h
  · exact h
theorem RdPost.yes' {ns : List Int} {w : World} {e : Ending} {w' : World} (h : RdPost (some ns) w e w') : ∃ v, e = .returned (.tuple #[v, .bool true]) ∧ w'.ownsRow w.heap.size 3 1 v ns.length (ns.map (Value.int .i64)) ∧ Below w.heap.size w w' := by
  rcases h with ⟨ms, v, h, r⟩ | ⟨h, _⟩
  · obtain rfl := Option.some.inj h
    exact ⟨v, r⟩
  · cases h
/-- One word: a walker, or none. -/
def pwW (p : List UInt8) : Option S25 :=
  match rdN (spl 58 p) with
  | some [a, b] => some ⟨a, b⟩
  | _ => none
def pwF : List (List UInt8) → Option (List S25)
  | [] => some []
  | p :: r => match pwW p with
    | none => none
    | some x => (pwF r).map (x :: ·)
theorem pwF_snoc (ps : List (List UInt8)) (l : List S25) (p : List UInt8) (x : S25) (h : pwF ps = some l) (hp : pwW p = some x) : pwF (ps ++ [p]) = some (l ++ [x]) := by
  induction ps generalizing l with
  | nil => simp only [pwF, Option.some.injEq] at h; subst h; simp [pwF, hp]
  | cons q r ih =>
    simp only [pwF, List.cons_append] at h ⊢
    cases hq : pwW q with
    | none => rw [hq] at h; cases h
    | some u =>
      rw [hq] at h
      simp only [Option.map_eq_some_iff] at h
      obtain ⟨m, hm, rfl⟩ := h
      rw [ih m hm]
      simp
theorem pwF_none_at (ps qs : List (List UInt8)) (p : List UInt8) (hp : pwW p = none) : pwF (ps ++ p :: qs) = none := by
  induction ps with
  | nil => simp [pwF, hp]
  | cons q r ih =>
    simp only [pwF, List.cons_append]
    rw [ih]
    cases pwW q <;> rfl
theorem pwF_len {ps : List (List UInt8)} {l : List S25} (h : pwF ps = some l) : l.length = ps.length := by
  induction ps generalizing l with
  | nil => simp only [pwF, Option.some.injEq] at h; subst h; rfl
  | cons q r ih =>
    simp only [pwF] at h
    cases hq : pwW q with
    | none => rw [hq] at h; cases h
    | some u =>
      rw [hq] at h
      simp only [Option.map_eq_some_iff] at h
      obtain ⟨m, hm, rfl⟩ := h
      simp [ih hm]
def PwPost (res : List S25) (ok : Bool) (w : World) (e : Ending) (w' : World) : Prop :=
  ∃ v, e = .returned (.tuple #[v, .bool ok]) ∧ Kd.R k25 25 w' w.heap.size (fun _ => True) v res ∧ Below w.heap.size w w'
def pwRes (r : Option (List S25)) : List S25 × Bool :=
  match r with
  | none => ([], false)
  | some l => if impl_AreWalkers.f l = some true then (l, true) else ([], false)
theorem walkInfo : (Tryz.prog.info? 25).map (fun i => (i.zero, i.size, i.bytes)) = some (some (.agg #[.int .i64 0, .int .i64 0]), 2, 16) := by kernel_rfl
set_option maxHeartbeats 8000000 in
set_option maxRecDepth 100000 in
theorem pw.calls (s : ByteArray) (hs : s.size ≤ 2000000) (w : World) (ht : T2 w) :
    Calls Tryz.prog 27 #[.string s] w (PwPost (pwRes (pwF (spl 44 s.data.toList))).1 (pwRes (pwF (spl 44 s.data.toList))).2 w) := by
  have hsz : s.data.toList.length = s.size := (Lib.size_eq s).symm
  have hn := spl_length_le 44 s.data.toList []
  have hm := spla_mem_le 44 s.data.toList []
  rw [show spla 44 [] s.data.toList = spl 44 s.data.toList from rfl] at hn hm
  have HSP := jb.mk (split_at s 44 (by omega) w ht)
  have HT := jb.mk ht
  have HM : jb (∀ p ∈ spl 44 s.data.toList, p.length ≤ 2000000) := ⟨fun p hp => by have := hm p hp; simp at this; omega⟩
  have HN : jb ((spl 44 s.data.toList).length ≤ 2000001) := ⟨by omega⟩
  clear hsz hn hm ht
  generalize hP : spl 44 s.data.toList = ps at *
  clear hP
  have mixed : Tryz.prog.follows .mixedOrders = true := by kernel_rfl
  obtain ⟨i0, hi0, hz0, hz1, hz2⟩ := info_parts walkInfo
  have hpl : ps.length ≤ 2000001 := HN.out
  have hu := Tryz.underlying25
  go_enter Tryz.func27, Tryz.ntmps27
  go_wp2_with (go_at_call 55; (with_reducible refine HSP.out.mono ?_); rintro e w1 ⟨rfl, rfl⟩)
  have S0 : jb (SP w (w.alloc (.cells (ps.map fun p => Value.string (bs p)).toArray 9)) (.slice none 0 0) [] w.heap.size (.cells (ps.map fun p => Value.string (bs p)).toArray 9 (0, 0))) := ⟨qb (Below.refl _ _) _, OwnRow.none_ _ _ _ _ _, heap_alloc_new w _⟩
  generalize w.alloc (.cells (ps.map fun p => Value.string (bs p)).toArray 9) = wm at S0 ⊢
  clear HSP
  go_loopg [12, 4] ps.length (fun gg v12 v4 wr => ∃ (kk : Nat) (l : List S25), v12 = .int .i64 kk ∧ kk ≤ ps.length ∧ ps.length - kk ≤ gg ∧ jb (pwF (ps.take kk) = some l) ∧ jb (SP w wr v4 l w.heap.size (.cells (ps.map fun p => Value.string (bs p)).toArray 9 (0, 0))))
  case atStart => exact ⟨0, [], by go_num, by omega, by omega, ⟨rfl⟩, S0⟩
  case round =>
    clear S0
    obtain ⟨kk, l, rfl, hkk, hgg, E1, S1⟩ := hrel
    by_cases hlt : kk < ps.length
    · have hltz : (kk : Int) < (ps.length : Int) := by omega
      have c0 : wr.cell? ⟨w.heap.size, kk, none⟩ = some (.string (bs ps[kk])) := by rw [qh S1.out.2.2 kk]; simp [hlt]
      have TW : jb (T2 wr) := ⟨HT.out.step S1.out.1⟩
      have hpm : ps[kk].length ≤ 2000000 := HM.out _ (List.getElem_mem _)
      have HRD : jb (Calls Tryz.prog 56 #[.string (bs ps[kk]), .string ⟨#[58]⟩] wr (RdPost (rdN (spl 58 ps[kk])) wr)) := ⟨by
        have := readNumbers.calls (bs ps[kk]) 58 (by rw [bs_size]; exact hpm) wr TW.out
        rw [bs_data] at this
        exact this⟩
      have HTK : jb (ps.take (kk + 1) = ps.take kk ++ [ps[kk]]) := ⟨List.take_succ_eq_append_getElem hlt⟩
      have HDR : jb (ps = ps.take kk ++ ps[kk] :: ps.drop (kk + 1)) := ⟨by rw [← List.drop_eq_getElem_cons hlt, List.take_append_drop]⟩
      have HLL : jb (l.length ≤ 2000001) := ⟨by have := pwF_len E1.out; rw [List.length_take] at this; omega⟩
      clear hpm TW
      generalize hpp : ps[kk] = pp at c0 HTK HDR HRD
      clear hpp
      cases hr : rdN (spl 58 pp) with
      | none =>
        have HCN : jb (pwF ps = none) := ⟨by rw [HDR.out]; exact pwF_none_at _ _ _ (by unfold pwW; rw [hr])⟩
        rw [hr] at HRD
        clear hr HTK HDR
        generalize bs pp = bp at c0 HRD
        go_wp2_with (go_at_call 56; (with_reducible refine HRD.out.mono ?_); intro e w2 hp; obtain ⟨he, hb2⟩ := RdPost.no' hp; subst he; have B2 := jb.mk hb2; clear hb2 hp)
        go_ret2
        rw [HCN.out]
        exact ⟨_, rfl, Kd.R_nil _ _ _ _ _, S1.out.1.trans (B2.out.mono S1.out.1.size)⟩
      | some ns =>
        rw [hr] at HRD
        by_cases h2 : ns.length = 2
        · obtain ⟨p, q, rfl⟩ : ∃ p q, ns = [p, q] := by
            match ns, h2 with
            | [p, q], _ => exact ⟨p, q, rfl⟩
          have HRN : jb (pwF (ps.take (kk + 1)) = some (l ++ [⟨p, q⟩])) := ⟨by rw [HTK.out]; exact pwF_snoc _ _ _ _ E1.out (by unfold pwW; rw [hr])⟩
          clear hr HTK HDR h2
          generalize bs pp = bp at c0 HRD
          go_wp2_with (go_at_call 56; (with_reducible refine HRD.out.mono ?_); intro e w2 hp; obtain ⟨vn, he, ho, hb2⟩ := RdPost.yes' hp; subst he; obtain ⟨gN, cN, eN, hc0, hc1, cellsN, hhN⟩ := own_two ho; subst eN; have S2 := jb.mk (S1.out.step hb2); have HN2 := jb.mk hhN; clear hb2 hp ho hhN)
          obtain ⟨xs, hown0, hreps⟩ := S2.out.2.1
          have HOWN := jb.mk hown0
          have HREPS := jb.mk hreps
          have ag : jb (some gN ≠ u4.ownBlock) := ⟨own_ne hown0 HN2.out (by decide)⟩
          clear hown0 hreps
          have hll := HLL.out
          have hsz2 := S2.out.1.size
          have lN := blk_lt HN2.out
          go_region_held3 (fun w' => w'.cell? ⟨gN, 0, none⟩ = some (.int .i64 p) ∧ w'.cell? ⟨gN, 1, none⟩ = some (.int .i64 q))
            (first
              | go_keep
              | (go_split_ands
                 refine ⟨?_, ?_⟩
                 · (rw [hgrow.cell_far _ (by simp; omega) ag.out]; assumption)
                 · (rw [hgrow.cell_far _ (by simp; omega) ag.out]; assumption)))
            ((refine step_append_lies _ (by rfl) _ _ _ (by rfl) w.heap.size 25 i0 _ 2 16 Tryz.underlying32 hi0 hz0 hz1 hz2 rfl (by omega) u4 l.length xs (by rfl) ((HOWN.out.alloc _).drew) ⟨w2.heap.size, 0, none⟩ 1 1 [.int .i64 p, .int .i64 q] (by rfl) (by rfl) (World.news_of_block (cs := #[.int .i64 p, .int .i64 q]) (t := 25) (fr := (0, 0)) (heap_alloc_new w2 _)) (by simp [Value.oneCell']) (by omega) (by unfold maxLen; omega) (by omega) (by simp; omega) (w2.heap.size + 1) (by simp) ?_; intro gg cap w3 hown1 hgrow hat hlt))
          have BA : Below w.heap.size w ((w2.alloc (.cells #[.int .i64 p, .int .i64 q] 25)).drew) := (qb S2.out.1 _).drew
          have S3 : jb (SP w w3 (.slice (some ⟨gg, 0, none⟩) (l.length + 1) cap) (l ++ [⟨p, q⟩]) w.heap.size (.cells (ps.map fun p => Value.string (bs p)).toArray 9 (0, 0))) := ⟨BA.grown hgrow (by simp; omega) (fun k hk => own_base HOWN.out k hk), ⟨xs ++ [.int .i64 p, .int .i64 q], by simpa using hown1, HREPS.out.snoc rfl rfl⟩,
            (hgrow.block _ (by have := blk_lt S2.out.2.2; simp; omega) (own_ne HOWN.out S2.out.2.2 (by decide))).trans (qi (qe S2.out.2.2 _))⟩
          clear BA hown1 hgrow hat HOWN HREPS ag hc0 hc1 HN2 lN hsz2 hll c0 HRD S1 S2
          go_wp2_with fail
          go_roundg (ps.length - (kk + 1))
          case measure => omega
          case rel => exact ⟨kk + 1, l ++ [⟨p, q⟩], by go_num, by omega, by omega, HRN, S3⟩
        · have HCN : jb (pwF ps = none) := ⟨by
            rw [HDR.out]
            refine pwF_none_at _ _ _ ?_
            unfold pwW
            rw [hr]
            match ns, h2 with
            | [], _ => rfl
            | [_], _ => rfl
            | [_, _], h => exact absurd rfl h
            | _ :: _ :: _ :: _, _ => rfl⟩
          have q1 : ((ns.length : Int) == 2) = false := by simp; omega
          clear hr HTK HDR h2
          generalize bs pp = bp at c0 HRD
          go_wp2_with (go_at_call 56; (with_reducible refine HRD.out.mono ?_); intro e w2 hp; obtain ⟨vn, he, ho, hb2⟩ := RdPost.yes' hp; subst he; obtain ⟨aN, cN, eN⟩ := own_form ho; subst eN; have B2 := jb.mk hb2; clear hb2 hp ho)
          go_ret2
          rw [HCN.out]
          exact ⟨_, rfl, Kd.R_nil _ _ _ _ _, S1.out.1.trans (B2.out.mono S1.out.1.size)⟩
    · have hltz : ¬ (kk : Int) < (ps.length : Int) := by omega
      have e : kk = ps.length := by omega
      have E2 : jb (pwF ps = some l) := ⟨by have := E1.out; rwa [e, List.take_length] at this⟩
      have HLL : l.length ≤ 2000001 := by have := pwF_len E2.out; omega
      obtain ⟨A4, c4, e4, hc4, hC4⟩ := Kd.R_reads (OwnRow.toR S1.out.2.1)
      have HC4 := jb.mk hc4
      have HCC := jb.mk hC4
      have HVV := jb.mk e4
      obtain ⟨b, hb⟩ : ∃ b, impl_AreWalkers.f l = some b := by
        unfold impl_AreWalkers.f
        rw [if_pos (by omega)]
        exact ⟨_, rfl⟩
      have HAW := jb.mk hb
      subst e4
      clear hc4 hC4 hb E1
      cases b with
      | true =>
        go_wp2_with (go_at_call 31; (with_reducible refine (impl_AreWalkers.calls A4 c4 l true _ HCC.out HC4.out HAW.out).mono ?_); rintro e w2 ⟨rfl, hb2⟩; have S2 := jb.mk (S1.out.step hb2); clear hb2)
        go_ret2
        rw [E2.out]
        simp only [pwRes, HAW.out, if_true]
        exact ⟨_, rfl, OwnRow.toR S2.out.2.1, S2.out.1⟩
      | false =>
        go_wp2_with (go_at_call 31; (with_reducible refine (impl_AreWalkers.calls A4 c4 l false _ HCC.out HC4.out HAW.out).mono ?_); rintro e w2 ⟨rfl, hb2⟩; have S2 := jb.mk (S1.out.step hb2); clear hb2)
        go_ret2
        rw [E2.out]
        have hne : ¬ impl_AreWalkers.f l = some true := by rw [HAW.out]; simp
        simp only [pwRes, if_neg hne]
        exact ⟨_, rfl, Kd.R_nil _ _ _ _ _, S2.out.1⟩
end Go.Proofs.YtoideilmkcpilaaGreatDoor.OFnWalkersMeet
