/- The law FnWalkersMeet walked to its end, its callees' answers known. -/
import Derived.Test.YtoideilmkcpilaaGreatDoorMeetD
namespace Go.Proofs.YtoideilmkcpilaaGreatDoor.OFnWalkersMeet
open Go.RowKit Go.Proofs.YtoideilmkcpilaaGreatDoor.Tx Go.Proofs.YtoideilmkcpilaaGreatDoorW.PrintWords Go.Proofs.YtoideilmkcpilaaGreatDoorW.PrintLast Go.Proofs.YtoideilmkcpilaaGreatDoorW.PrintMore
set_option linter.unusedVariables false
set_option linter.unusedSimpArgs false
set_option maxHeartbeats 60000000 in
set_option maxRecDepth 100000 in
theorem meetA (Ac Am : Option Addr) (cc cm : Nat) (lc lm : List Int) (w0 : World)
    (hbig : ∀ W, Below w0.heap.size w0 W → Calls Tryz.prog 4 #[.slice Ac lc.length cc, .slice Am lm.length cm] W fun e w' => e = .returned (.bool false) ∧ Below W.heap.size W w')
    (hd1 : ∀ W, Below w0.heap.size w0 W → Calls Tryz.prog 5 #[.slice Ac lc.length cc] W (DrawP.DrwPair W)) (hd2 : ∀ W, Below w0.heap.size w0 W → Calls Tryz.prog 13 #[.slice Am lm.length cm] W (DrawP.DrwList W))
    (hd3 : ∀ W, Below w0.heap.size w0 W → Calls Tryz.prog 20 #[.slice Am lm.length cm] W (DrawP.DrwWP W)) (hd4 : ∀ W, Below w0.heap.size w0 W → Calls Tryz.prog 23 #[.slice Am lm.length cm] W (DrawP.DrwGA W))
    (hd5 : ∀ W, Below w0.heap.size w0 W → Calls Tryz.prog 26 #[.slice Am lm.length cm] W (DrawP.DrwStr W))
    (hM : ∀ p s p' s', MOwes p s p' s') (hLo : ∀ l : List S25, l.length ≤ 200 → LOwes l) (hW : ∀ q z top low, WOwes q z top low) (hG : ∀ p s p' s' m n, GOwes p s p' s' m n) (hP : ∀ word : ByteArray, word.size ≤ 1000 → POwes word) (ht : T2 w0) :
    Calls Tryz.prog 3 #[.slice Ac lc.length cc, .slice Am lm.length cm] w0 fun e w' => e = .returned (.bool true) ∧ Below w0.heap.size w0 w' := by
  have HBG := jb.mk hbig
  have HD1 := jb.mk hd1
  have HD2 := jb.mk hd2
  have HD3 := jb.mk hd3
  have HD4 := jb.mk hd4
  have HD5 := jb.mk hd5
  have HMO := jb.mk hM
  have HLO := jb.mk hLo
  have HWO := jb.mk hW
  have HGO := jb.mk hG
  have HPO := jb.mk hP
  have HT0 := jb.mk ht
  clear hbig hd1 hd2 hd3 hd4 hd5 hM hLo hW hG hP ht
  have hu := Tryz.underlying25
  have mixed : Tryz.prog.follows .mixedOrders = true := by kernel_rfl
  go_enter Tryz.func3, Tryz.ntmps3
  go_wp2_with fail
  (with_reducible refine (HBG.out _ (Below.refl _ _)).mono ?_)
  rintro e u1 ⟨rfl, hb1⟩
  go_wp2_with fail
  (with_reducible refine (HD1.out _ hb1).mono ?_)
  rintro e v0 ⟨p, s, p', s', rfl, hb2⟩
  have HW0 := jb.mk (hb1.trans (hb2.mono hb1.size))
  clear hb1 hb2
  obtain ⟨num, den, place, part, ok, b1, b2, h1, h2, h3, h4, h5, h6, h7, f1, f2⟩ := HMO.out p s p' s'
  have H1 := jb.mk h1
  have H2 := jb.mk h2
  have H3 := jb.mk h3
  have H4 := jb.mk h4
  have H5 := jb.mk h5
  have H6 := jb.mk h6
  have H7 := jb.mk h7
  have F1 := jb.mk f1
  have F2 := jb.mk f2
  clear h1 h2 h3 h4 h5 h6 h7 f1 f2 HMO HD1 HBG
  have HB := jb.mk (B2.start v0 p s p' s' 25)
  go_upto_region 8 with (first
      | (go_at_call 6; (with_reducible refine (H1.out _).mono ?_); rintro e w1 ⟨rfl, hb1⟩; replace HB := jb.mk (HB.out.step hb1); (try clear c0 c1 c2 c3); obtain ⟨c0, c1, c2, c3⟩ := HB.out.2; clear hb1)
      | (go_at_call 7; (with_reducible refine (H2.out _).mono ?_); rintro e w1 ⟨rfl, hb1⟩; replace HB := jb.mk (HB.out.step hb1); (try clear c0 c1 c2 c3); obtain ⟨c0, c1, c2, c3⟩ := HB.out.2; clear hb1)
      | (go_at_call 8; (with_reducible refine (H3.out _).mono ?_); rintro e w1 ⟨rfl, hb1⟩; replace HB := jb.mk (HB.out.step hb1); (try clear c0 c1 c2 c3); obtain ⟨c0, c1, c2, c3⟩ := HB.out.2; clear hb1)
      | (go_at_call 9; (with_reducible refine (H4.out _).mono ?_); rintro e w1 ⟨rfl, hb1⟩; replace HB := jb.mk (HB.out.step hb1); (try clear c0 c1 c2 c3); obtain ⟨c0, c1, c2, c3⟩ := HB.out.2; clear hb1))
  go_cut [158] from 111 to 158 (fun v158 wc => v158 = .bool false ∧ B2 v0 p s p' s' wc)
  case first =>
    as_aux_lemma =>
    have HF := jb.mk (BxF.of HB.out)
    cases ok
    ·
      refine wp_region_held_drew (S := (fun w' => BxF v0 p s p' s' w' ∧ w'.cell? ⟨v0.heap.size, 0, none⟩ = some (.int .i64 p) ∧ w'.cell? ⟨v0.heap.size, 1, none⟩ = some (.int .i64 s))) (by kernel_rfl) ?_ (fun hHeld => ?_)
      · (try dsimp only); first | assumption | exact BxF.keep (by first | assumption | exact HF.out) (by first | assumption | exact qc (Below.refl _ _))
      refine wpAnyH_take (i := 0) (oi := _) (v := ?_) (by simp only [List.getElem?_toArray, List.getElem?_cons_succ, List.getElem?_cons_zero]; exact rfl) (by kernel_rfl) (by kernel_rfl) (by kernel_rfl) (by exact fun _ _ _ h => h) (Or.inl ⟨?_, ?_⟩) (by assumption) ?_
      rotate_left 1
      · exact rfl
      · intro w hSw; (try dsimp only at hSw); go_simp; try with_reducible rfl
      try simp only [Act.put, List.setIfInBounds_toArray, List.set_cons_zero, List.set_cons_succ]
      refine wpAnyH_take (i := 1) (oi := _) (v := ?_) (by simp only [List.getElem?_toArray, List.getElem?_cons_succ, List.getElem?_cons_zero]; exact rfl) (by kernel_rfl) (by kernel_rfl) (by kernel_rfl) (by exact fun _ _ _ h => h) (Or.inl ⟨?_, ?_⟩) (by assumption) ?_
      rotate_left 1
      · exact rfl
      · intro w hSw; (try dsimp only at hSw); go_simp; try with_reducible rfl
      try simp only [Act.put, List.setIfInBounds_toArray, List.set_cons_zero, List.set_cons_succ]
      refine wpAnyH_take (i := 2) (oi := _) (v := ?_) (by simp only [List.getElem?_toArray, List.getElem?_cons_succ, List.getElem?_cons_zero]; exact rfl) (by kernel_rfl) (by kernel_rfl) (by kernel_rfl) (by exact fun _ _ _ h => h) (Or.inl ⟨?_, ?_⟩) (by assumption) ?_
      rotate_left 1
      · exact rfl
      · intro w hSw; (try dsimp only at hSw); go_simp; try with_reducible rfl
      try simp only [Act.put, List.setIfInBounds_toArray, List.set_cons_zero, List.set_cons_succ]
      refine wpAnyH_take (i := 3) (oi := _) (v := ?_) (by simp only [List.getElem?_toArray, List.getElem?_cons_succ, List.getElem?_cons_zero]; exact rfl) (by kernel_rfl) (by kernel_rfl) (by kernel_rfl) (by exact fun _ _ _ h => h) (Or.inl ⟨?_, ?_⟩) (by assumption) ?_
      rotate_left 1
      · exact rfl
      · intro w hSw; (try dsimp only at hSw); go_simp; try with_reducible rfl
      try simp only [Act.put, List.setIfInBounds_toArray, List.set_cons_zero, List.set_cons_succ]
      refine wpAnyH_take (i := 4) (oi := _) (v := ?_) (by simp only [List.getElem?_toArray, List.getElem?_cons_succ, List.getElem?_cons_zero]; exact rfl) (by kernel_rfl) (by kernel_rfl) (by kernel_rfl) (by exact fun _ _ _ h => h) (Or.inl ⟨?_, ?_⟩) (by assumption) ?_
      rotate_left 1
      · exact rfl
      · intro w hSw; (try dsimp only at hSw); go_simp; try with_reducible rfl
      try simp only [Act.put, List.setIfInBounds_toArray, List.set_cons_zero, List.set_cons_succ]
      refine wpAnyH_take (i := 5) (oi := _) (v := ?_) (by simp only [List.getElem?_toArray, List.getElem?_cons_succ, List.getElem?_cons_zero]; exact rfl) (by kernel_rfl) (by kernel_rfl) (by kernel_rfl) (by exact fun _ _ _ h => h) (Or.inl ⟨?_, ?_⟩) (by assumption) ?_
      rotate_left 1
      · exact rfl
      · intro w hSw; (try dsimp only at hSw); go_simp; try with_reducible rfl
      try simp only [Act.put, List.setIfInBounds_toArray, List.set_cons_zero, List.set_cons_succ]
      refine wpAnyH_take (i := 6) (oi := _) (v := ?_) (by simp only [List.getElem?_toArray, List.getElem?_cons_succ, List.getElem?_cons_zero]; exact rfl) (by kernel_rfl) (by kernel_rfl) (by kernel_rfl) (by exact fun _ _ _ h => h) (Or.inl ⟨?_, ?_⟩) (by assumption) ?_
      rotate_left 1
      · exact rfl
      · intro w hSw; (try dsimp only at hSw); go_simp; try with_reducible rfl
      try simp only [Act.put, List.setIfInBounds_toArray, List.set_cons_zero, List.set_cons_succ]
      refine wpAnyH_take (i := 7) (oi := _) (v := ?_) (by simp only [List.getElem?_toArray, List.getElem?_cons_succ, List.getElem?_cons_zero]; exact rfl) (by kernel_rfl) (by kernel_rfl) (by kernel_rfl) (by exact fun _ _ _ h => h) (Or.inl ⟨?_, ?_⟩) (by assumption) ?_
      rotate_left 1
      · exact rfl
      · intro w hSw; (try dsimp only at hSw); go_simp; try with_reducible rfl
      try simp only [Act.put, List.setIfInBounds_toArray, List.set_cons_zero, List.set_cons_succ]
      refine wpAnyH_take (i := 8) (oi := _) (v := ?_) (by simp only [List.getElem?_toArray, List.getElem?_cons_succ, List.getElem?_cons_zero]; exact rfl) (by kernel_rfl) (by kernel_rfl) (by kernel_rfl) (by exact fun _ _ _ h => h) (Or.inl ⟨?_, ?_⟩) (by assumption) ?_
      rotate_left 1
      · exact rfl
      · intro w hSw; (try dsimp only at hSw); go_simp; try with_reducible rfl
      try simp only [Act.put, List.setIfInBounds_toArray, List.set_cons_zero, List.set_cons_succ]
      refine wpAnyH_take (i := 9) (oi := _) (v := ?_) (by simp only [List.getElem?_toArray, List.getElem?_cons_succ, List.getElem?_cons_zero]; exact rfl) (by kernel_rfl) (by kernel_rfl) (by kernel_rfl) (by exact fun _ _ _ h => h) (Or.inl ⟨?_, ?_⟩) (by assumption) ?_
      rotate_left 1
      · exact rfl
      · intro w hSw; (try dsimp only at hSw); go_simp; try with_reducible rfl
      try simp only [Act.put, List.setIfInBounds_toArray, List.set_cons_zero, List.set_cons_succ]
      refine wpAnyH_take (i := 10) (oi := _) (v := ?_) (by simp only [List.getElem?_toArray, List.getElem?_cons_succ, List.getElem?_cons_zero]; exact rfl) (by kernel_rfl) (by kernel_rfl) (by kernel_rfl) (by exact fun _ _ _ h => h) (Or.inl ⟨?_, ?_⟩) (by assumption) ?_
      rotate_left 1
      · exact rfl
      · intro w hSw; (try dsimp only at hSw); go_simp; try with_reducible rfl
      try simp only [Act.put, List.setIfInBounds_toArray, List.set_cons_zero, List.set_cons_succ]
      refine wpAnyH_take (i := 11) (oi := _) (v := ?_) (by simp only [List.getElem?_toArray, List.getElem?_cons_succ, List.getElem?_cons_zero]; exact rfl) (by kernel_rfl) (by kernel_rfl) (by kernel_rfl) (by exact fun _ _ _ h => h) (Or.inl ⟨?_, ?_⟩) (by assumption) ?_
      rotate_left 1
      · exact rfl
      · intro w hSw; (try dsimp only at hSw); go_simp; try with_reducible rfl
      try simp only [Act.put, List.setIfInBounds_toArray, List.set_cons_zero, List.set_cons_succ]
      refine wpAnyH_take (i := 12) (oi := _) (v := ?_) (by simp only [List.getElem?_toArray, List.getElem?_cons_succ, List.getElem?_cons_zero]; exact rfl) (by kernel_rfl) (by kernel_rfl) (by kernel_rfl) (by exact fun _ _ _ h => h) (Or.inl ⟨?_, ?_⟩) (by assumption) ?_
      rotate_left 1
      · exact rfl
      · intro w hSw; (try dsimp only at hSw); go_simp; try with_reducible rfl
      try simp only [Act.put, List.setIfInBounds_toArray, List.set_cons_zero, List.set_cons_succ]
      refine wpAnyH_take (i := 13) (oi := _) (v := ?_) (by simp only [List.getElem?_toArray, List.getElem?_cons_succ, List.getElem?_cons_zero]; exact rfl) (by kernel_rfl) (by kernel_rfl) (by kernel_rfl) (by exact fun _ _ _ h => h) (Or.inl ⟨?_, ?_⟩) (by assumption) ?_
      rotate_left 1
      · exact rfl
      · intro w hSw; (try dsimp only at hSw); go_simp; try with_reducible rfl
      try simp only [Act.put, List.setIfInBounds_toArray, List.set_cons_zero, List.set_cons_succ]
      refine wpAnyH_take (i := 14) (oi := _) (v := ?_) (by simp only [List.getElem?_toArray, List.getElem?_cons_succ, List.getElem?_cons_zero]; exact rfl) (by kernel_rfl) (by kernel_rfl) (by kernel_rfl) (by exact fun _ _ _ h => h) (Or.inl ⟨?_, ?_⟩) (by assumption) ?_
      rotate_left 1
      · exact rfl
      · intro w hSw; (try dsimp only at hSw); go_simp; try with_reducible rfl
      try simp only [Act.put, List.setIfInBounds_toArray, List.set_cons_zero, List.set_cons_succ]
      refine wpAnyH_take (i := 15) (oi := _) (v := ?_) (by simp only [List.getElem?_toArray, List.getElem?_cons_succ, List.getElem?_cons_zero]; exact rfl) (by kernel_rfl) (by kernel_rfl) (by kernel_rfl) (by exact fun _ _ _ h => h) (Or.inl ⟨?_, ?_⟩) (by assumption) ?_
      rotate_left 1
      · exact rfl
      · intro w hSw; (try dsimp only at hSw); go_simp; try with_reducible rfl
      try simp only [Act.put, List.setIfInBounds_toArray, List.set_cons_zero, List.set_cons_succ]
      refine wpAnyH_take (i := 16) (oi := _) (v := ?_) (by simp only [List.getElem?_toArray, List.getElem?_cons_succ, List.getElem?_cons_zero]; exact rfl) (by kernel_rfl) (by kernel_rfl) (by kernel_rfl) (by exact fun _ _ _ h => h) (Or.inl ⟨?_, ?_⟩) (by assumption) ?_
      rotate_left 1
      · exact rfl
      · intro w hSw; (try dsimp only at hSw); go_simp; try with_reducible rfl
      try simp only [Act.put, List.setIfInBounds_toArray, List.set_cons_zero, List.set_cons_succ]
      refine wpAnyH_take (i := 17) (oi := _) (v := ?_) (by simp only [List.getElem?_toArray, List.getElem?_cons_succ, List.getElem?_cons_zero]; exact rfl) (by kernel_rfl) (by kernel_rfl) (by kernel_rfl) (by exact fun _ _ _ h => h) (Or.inl ⟨?_, ?_⟩) (by assumption) ?_
      rotate_left 1
      · exact rfl
      · intro w hSw; (try dsimp only at hSw); go_simp; try with_reducible rfl
      try simp only [Act.put, List.setIfInBounds_toArray, List.set_cons_zero, List.set_cons_succ]
      refine wpAnyH_take (i := 18) (oi := _) (v := ?_) (by simp only [List.getElem?_toArray, List.getElem?_cons_succ, List.getElem?_cons_zero]; exact rfl) (by kernel_rfl) (by kernel_rfl) (by kernel_rfl) (by exact fun _ _ _ h => h) (Or.inl ⟨?_, ?_⟩) (by assumption) ?_
      rotate_left 1
      · exact rfl
      · intro w hSw; (try dsimp only at hSw); go_simp; try with_reducible rfl
      try simp only [Act.put, List.setIfInBounds_toArray, List.set_cons_zero, List.set_cons_succ]
      refine wpAnyH_take (i := 19) (oi := _) (v := ?_) (by simp only [List.getElem?_toArray, List.getElem?_cons_succ, List.getElem?_cons_zero]; exact rfl) (by kernel_rfl) (by kernel_rfl) (by kernel_rfl) (by exact fun _ _ _ h => h) (Or.inl ⟨?_, ?_⟩) (by assumption) ?_
      rotate_left 1
      · exact rfl
      · intro w hSw; (try dsimp only at hSw); go_simp; try with_reducible rfl
      try simp only [Act.put, List.setIfInBounds_toArray, List.set_cons_zero, List.set_cons_succ]
      refine wpAnyH_take (i := 20) (oi := _) (v := ?_) (by simp only [List.getElem?_toArray, List.getElem?_cons_succ, List.getElem?_cons_zero]; exact rfl) (by kernel_rfl) (by kernel_rfl) (by kernel_rfl) (by exact fun _ _ _ h => h) (Or.inl ⟨?_, ?_⟩) (by assumption) ?_
      rotate_left 1
      · exact rfl
      · intro w hSw; (try dsimp only at hSw); go_simp; try with_reducible rfl
      try simp only [Act.put, List.setIfInBounds_toArray, List.set_cons_zero, List.set_cons_succ]
      refine wpAnyH_take (i := 21) (oi := _) (v := ?_) (by simp only [List.getElem?_toArray, List.getElem?_cons_succ, List.getElem?_cons_zero]; exact rfl) (by kernel_rfl) (by kernel_rfl) (by kernel_rfl) (by exact fun _ _ _ h => h) (Or.inl ⟨?_, ?_⟩) (by assumption) ?_
      rotate_left 1
      · exact rfl
      · intro w hSw; (try dsimp only at hSw); go_simp; try with_reducible rfl
      try simp only [Act.put, List.setIfInBounds_toArray, List.set_cons_zero, List.set_cons_succ]
      refine wpAnyH_take (i := 22) (oi := _) (v := ?_) (by simp only [List.getElem?_toArray, List.getElem?_cons_succ, List.getElem?_cons_zero]; exact rfl) (by kernel_rfl) (by kernel_rfl) (by kernel_rfl) (by exact fun _ _ _ h => h) (Or.inl ⟨?_, ?_⟩) (by assumption) ?_
      rotate_left 1
      · exact rfl
      · intro w hSw; (try dsimp only at hSw); go_simp; try with_reducible rfl
      try simp only [Act.put, List.setIfInBounds_toArray, List.set_cons_zero, List.set_cons_succ]
      refine wpAnyH_take (i := 23) (oi := _) (v := ?_) (by simp only [List.getElem?_toArray, List.getElem?_cons_succ, List.getElem?_cons_zero]; exact rfl) (by kernel_rfl) (by kernel_rfl) (by kernel_rfl) (by exact fun _ _ _ h => h) (Or.inl ⟨?_, ?_⟩) (by assumption) ?_
      rotate_left 1
      · exact rfl
      · intro w hSw; (try dsimp only at hSw); go_simp; try with_reducible rfl
      try simp only [Act.put, List.setIfInBounds_toArray, List.set_cons_zero, List.set_cons_succ]
      refine wpAnyH_take (i := 24) (oi := _) (v := ?_) (by simp only [List.getElem?_toArray, List.getElem?_cons_succ, List.getElem?_cons_zero]; exact rfl) (by kernel_rfl) (by kernel_rfl) (by kernel_rfl) (by exact fun _ _ _ h => h) (Or.inl ⟨?_, ?_⟩) (by assumption) ?_
      rotate_left 1
      · exact rfl
      · intro w hSw; (try dsimp only at hSw); go_simp; try with_reducible rfl
      try simp only [Act.put, List.setIfInBounds_toArray, List.set_cons_zero, List.set_cons_succ]
      refine wpAnyH_take (i := 25) (oi := _) (v := ?_) (by simp only [List.getElem?_toArray, List.getElem?_cons_succ, List.getElem?_cons_zero]; exact rfl) (by kernel_rfl) (by kernel_rfl) (by kernel_rfl) (by exact fun _ _ _ h => h) (Or.inl ⟨?_, ?_⟩) (by assumption) ?_
      rotate_left 1
      · exact rfl
      · intro w hSw; (try dsimp only at hSw); go_simp; try with_reducible rfl
      try simp only [Act.put, List.setIfInBounds_toArray, List.set_cons_zero, List.set_cons_succ]
      refine wpAnyH_take (i := 26) (oi := _) (v := ?_) (by simp only [List.getElem?_toArray, List.getElem?_cons_succ, List.getElem?_cons_zero]; exact rfl) (by kernel_rfl) (by kernel_rfl) (by kernel_rfl) (by exact fun _ _ _ h => h) (Or.inl ⟨?_, ?_⟩) (by assumption) ?_
      rotate_left 1
      · exact rfl
      · intro w hSw; (try dsimp only at hSw); go_simp; try with_reducible rfl
      try simp only [Act.put, List.setIfInBounds_toArray, List.set_cons_zero, List.set_cons_succ]
      refine wpAnyH_take (i := 27) (oi := _) (v := ?_) (by simp only [List.getElem?_toArray, List.getElem?_cons_succ, List.getElem?_cons_zero]; exact rfl) (by kernel_rfl) (by kernel_rfl) (by kernel_rfl) (by exact fun _ _ _ h => h) (Or.inl ⟨?_, ?_⟩) (by assumption) ?_
      rotate_left 1
      · exact rfl
      · intro w hSw; (try dsimp only at hSw); go_simp; try with_reducible rfl
      try simp only [Act.put, List.setIfInBounds_toArray, List.set_cons_zero, List.set_cons_succ]
      refine wpAnyH_take (i := 28) (oi := _) (v := ?_) (by simp only [List.getElem?_toArray, List.getElem?_cons_succ, List.getElem?_cons_zero]; exact rfl) (by kernel_rfl) (by kernel_rfl) (by kernel_rfl) (by exact fun _ _ _ h => h) (Or.inl ⟨?_, ?_⟩) (by assumption) ?_
      rotate_left 1
      · exact rfl
      · intro w hSw; (try dsimp only at hSw); go_simp; try with_reducible rfl
      try simp only [Act.put, List.setIfInBounds_toArray, List.set_cons_zero, List.set_cons_succ]
      refine wpAnyH_take (i := 29) (oi := _) (v := ?_) (by simp only [List.getElem?_toArray, List.getElem?_cons_succ, List.getElem?_cons_zero]; exact rfl) (by kernel_rfl) (by kernel_rfl) (by kernel_rfl) (by exact fun _ _ _ h => h) (Or.inl ⟨?_, ?_⟩) (by assumption) ?_
      rotate_left 1
      · exact rfl
      · intro w hSw; (try dsimp only at hSw); go_simp; try with_reducible rfl
      try simp only [Act.put, List.setIfInBounds_toArray, List.set_cons_zero, List.set_cons_succ]
      refine wpAnyH_take (i := 30) (oi := _) (v := ?_) (by simp only [List.getElem?_toArray, List.getElem?_cons_succ, List.getElem?_cons_zero]; exact rfl) (by kernel_rfl) (by kernel_rfl) (by kernel_rfl) (by exact fun _ _ _ h => h) (Or.inl ⟨?_, ?_⟩) (by assumption) ?_
      rotate_left 1
      · exact rfl
      · intro w hSw; (try dsimp only at hSw); go_simp; try with_reducible rfl
      try simp only [Act.put, List.setIfInBounds_toArray, List.set_cons_zero, List.set_cons_succ]
      refine wpAnyH_take (i := 31) (oi := _) (v := ?_) (by simp only [List.getElem?_toArray, List.getElem?_cons_succ, List.getElem?_cons_zero]; exact rfl) (by kernel_rfl) (by kernel_rfl) (by kernel_rfl) (by exact fun _ _ _ h => h) (Or.inl ⟨?_, ?_⟩) (by assumption) ?_
      rotate_left 1
      · exact rfl
      · intro w hSw; (try dsimp only at hSw); go_simp; try with_reducible rfl
      try simp only [Act.put, List.setIfInBounds_toArray, List.set_cons_zero, List.set_cons_succ]
      refine wpAnyH_take (i := 32) (oi := _) (v := ?_) (by simp only [List.getElem?_toArray, List.getElem?_cons_succ, List.getElem?_cons_zero]; exact rfl) (by kernel_rfl) (by kernel_rfl) (by kernel_rfl) (by exact fun _ _ _ h => h) (Or.inl ⟨?_, ?_⟩) (by assumption) ?_
      rotate_left 1
      · exact rfl
      · intro w hSw; (try dsimp only at hSw); go_simp; try with_reducible rfl
      try simp only [Act.put, List.setIfInBounds_toArray, List.set_cons_zero, List.set_cons_succ]
      refine wpAnyH_take (i := 33) (oi := _) (v := ?_) (by simp only [List.getElem?_toArray, List.getElem?_cons_succ, List.getElem?_cons_zero]; exact rfl) (by kernel_rfl) (by kernel_rfl) (by kernel_rfl) (by exact fun _ _ _ h => h) (Or.inl ⟨?_, ?_⟩) (by assumption) ?_
      rotate_left 1
      · exact rfl
      · intro w hSw; (try dsimp only at hSw); go_simp; try with_reducible rfl
      try simp only [Act.put, List.setIfInBounds_toArray, List.set_cons_zero, List.set_cons_succ]
      refine wpAnyH_take (i := 34) (oi := _) (v := ?_) (by simp only [List.getElem?_toArray, List.getElem?_cons_succ, List.getElem?_cons_zero]; exact rfl) (by kernel_rfl) (by kernel_rfl) (by kernel_rfl) (by exact fun _ _ _ h => h) (Or.inl ⟨?_, ?_⟩) (by assumption) ?_
      rotate_left 1
      · exact rfl
      · intro w hSw; (try dsimp only at hSw); go_simp; try with_reducible rfl
      try simp only [Act.put, List.setIfInBounds_toArray, List.set_cons_zero, List.set_cons_succ]
      refine wpAnyH_take (i := 36) (oi := _) (v := ?_) (by simp only [List.getElem?_toArray, List.getElem?_cons_succ, List.getElem?_cons_zero]; exact rfl) (by kernel_rfl) (by kernel_rfl) (by kernel_rfl) (by exact fun _ _ _ h => h) (Or.inl ⟨?_, ?_⟩) (by assumption) ?_
      rotate_left 1
      · exact rfl
      · intro w hSw; (try dsimp only at hSw); go_simp; try with_reducible rfl
      try simp only [Act.put, List.setIfInBounds_toArray, List.set_cons_zero, List.set_cons_succ]
      refine wpAnyH_ready (rs := [35]) (by kernel_rfl) (by simp) ?_
      refine AllReadyH.cons (o := _) (by simp only [List.getElem?_toArray, List.getElem?_cons_succ, List.getElem?_cons_zero]; exact rfl) (fun K hK => ?_) AllReadyH.nil
      go_simp
      first | ((go_at_call 10; (with_reducible refine (H5.out _).mono ?_); rintro e w' ⟨rfl, hb'⟩)) | ((go_at_call 11; (with_reducible refine (H6.out _).mono ?_); rintro e w' ⟨rfl, hb'⟩))
      try go_wp2_with fail
      refine hK.out _ _ ?_ (fun hHeld => ?_)
      · (try dsimp only); first | assumption | exact BxF.keep (by first | assumption | exact HF.out) (by first | assumption | exact qc (Below.refl _ _))
      clear hK K
      try simp only [Act.put, List.setIfInBounds_toArray, List.set_cons_zero, List.set_cons_succ]
      refine wpAnyH_ready (rs := [37]) (by kernel_rfl) (by simp) ?_
      refine AllReadyH.cons (o := _) (by simp only [List.getElem?_toArray, List.getElem?_cons_succ, List.getElem?_cons_zero]; exact rfl) (fun K hK => ?_) AllReadyH.nil
      go_simp
      first | ((go_at_call 10; (with_reducible refine (H5.out _).mono ?_); rintro e w' ⟨rfl, hb'⟩)) | ((go_at_call 11; (with_reducible refine (H6.out _).mono ?_); rintro e w' ⟨rfl, hb'⟩))
      try go_wp2_with fail
      refine hK.out _ _ ?_ (fun hHeld => ?_)
      · (try dsimp only); first | assumption | exact BxF.keep (by first | assumption | exact HF.out) (by first | assumption | exact qc (Below.refl _ _))
      clear hK K
      try simp only [Act.put, List.setIfInBounds_toArray, List.set_cons_zero, List.set_cons_succ]
      refine wpAnyH_take (i := 38) (oi := _) (v := ?_) (by simp only [List.getElem?_toArray, List.getElem?_cons_succ, List.getElem?_cons_zero]; exact rfl) (by kernel_rfl) (by kernel_rfl) (by kernel_rfl) (by exact fun _ _ _ h => h) (Or.inl ⟨?_, ?_⟩) (by assumption) ?_
      rotate_left 1
      · exact rfl
      · intro w hSw; (try dsimp only at hSw); go_simp; try with_reducible rfl
      try simp only [Act.put, List.setIfInBounds_toArray, List.set_cons_zero, List.set_cons_succ]
      refine wpAnyH_take (i := 39) (oi := _) (v := ?_) (by simp only [List.getElem?_toArray, List.getElem?_cons_succ, List.getElem?_cons_zero]; exact rfl) (by kernel_rfl) (by kernel_rfl) (by kernel_rfl) (by exact fun _ _ _ h => h) (Or.inl ⟨?_, ?_⟩) (by assumption) ?_
      rotate_left 1
      · exact rfl
      · intro w hSw; (try dsimp only at hSw); go_simp; try with_reducible rfl
      try simp only [Act.put, List.setIfInBounds_toArray, List.set_cons_zero, List.set_cons_succ]
      refine wpAnyH_take (i := 40) (oi := _) (v := ?_) (by simp only [List.getElem?_toArray, List.getElem?_cons_succ, List.getElem?_cons_zero]; exact rfl) (by kernel_rfl) (by kernel_rfl) (by kernel_rfl) (by exact fun _ _ _ h => h) (Or.inl ⟨?_, ?_⟩) (by assumption) ?_
      rotate_left 1
      · exact rfl
      · intro w hSw; (try dsimp only at hSw); go_simp; try with_reducible rfl
      try simp only [Act.put, List.setIfInBounds_toArray, List.set_cons_zero, List.set_cons_succ]
      refine wpAnyH_take (i := 41) (oi := _) (v := ?_) (by simp only [List.getElem?_toArray, List.getElem?_cons_succ, List.getElem?_cons_zero]; exact rfl) (by kernel_rfl) (by kernel_rfl) (by kernel_rfl) (by exact fun _ _ _ h => h) (Or.inl ⟨?_, ?_⟩) (by assumption) ?_
      rotate_left 1
      · exact rfl
      · intro w hSw; (try dsimp only at hSw); go_simp; try with_reducible rfl
      try simp only [Act.put, List.setIfInBounds_toArray, List.set_cons_zero, List.set_cons_succ]
      refine wpAnyH_take (i := 42) (oi := _) (v := ?_) (by simp only [List.getElem?_toArray, List.getElem?_cons_succ, List.getElem?_cons_zero]; exact rfl) (by kernel_rfl) (by kernel_rfl) (by kernel_rfl) (by exact fun _ _ _ h => h) (Or.inl ⟨?_, ?_⟩) (by assumption) ?_
      rotate_left 1
      · exact rfl
      · intro w hSw; (try dsimp only at hSw); go_simp; try with_reducible rfl
      try simp only [Act.put, List.setIfInBounds_toArray, List.set_cons_zero, List.set_cons_succ]
      refine wpAnyH_take (i := 43) (oi := _) (v := undef) (by simp only [List.getElem?_toArray, List.getElem?_cons_succ, List.getElem?_cons_zero]; exact rfl) (by kernel_rfl) (by kernel_rfl) (by kernel_rfl) (by exact fun _ _ _ h => h) (Or.inr ⟨?_, rfl⟩) (by assumption) ?_
      · exact rfl
      try simp only [Act.put, List.setIfInBounds_toArray, List.set_cons_zero, List.set_cons_succ]
      refine wpAnyH_take (i := 44) (oi := _) (v := undef) (by simp only [List.getElem?_toArray, List.getElem?_cons_succ, List.getElem?_cons_zero]; exact rfl) (by kernel_rfl) (by kernel_rfl) (by kernel_rfl) (by exact fun _ _ _ h => h) (Or.inr ⟨?_, rfl⟩) (by assumption) ?_
      · exact rfl
      try simp only [Act.put, List.setIfInBounds_toArray, List.set_cons_zero, List.set_cons_succ]
      refine wpAnyH_take (i := 45) (oi := _) (v := undef) (by simp only [List.getElem?_toArray, List.getElem?_cons_succ, List.getElem?_cons_zero]; exact rfl) (by kernel_rfl) (by kernel_rfl) (by kernel_rfl) (by exact fun _ _ _ h => h) (Or.inr ⟨?_, rfl⟩) (by assumption) ?_
      · exact rfl
      try simp only [Act.put, List.setIfInBounds_toArray, List.set_cons_zero, List.set_cons_succ]
      refine wpAnyH_take (i := 46) (oi := _) (v := ?_) (by simp only [List.getElem?_toArray, List.getElem?_cons_succ, List.getElem?_cons_zero]; exact rfl) (by kernel_rfl) (by kernel_rfl) (by kernel_rfl) (by exact fun _ _ _ h => h) (Or.inl ⟨?_, ?_⟩) (by assumption) ?_
      rotate_left 1
      · exact rfl
      · intro w hSw; (try dsimp only at hSw); go_simp; try with_reducible rfl
      try simp only [Act.put, List.setIfInBounds_toArray, List.set_cons_zero, List.set_cons_succ]
      refine wpAnyH_take (i := 47) (oi := _) (v := ?_) (by simp only [List.getElem?_toArray, List.getElem?_cons_succ, List.getElem?_cons_zero]; exact rfl) (by kernel_rfl) (by kernel_rfl) (by kernel_rfl) (by exact fun _ _ _ h => h) (Or.inl ⟨?_, ?_⟩) (by assumption) ?_
      rotate_left 1
      · exact rfl
      · intro w hSw; (try dsimp only at hSw); go_simp; try with_reducible rfl
      try simp only [Act.put, List.setIfInBounds_toArray, List.set_cons_zero, List.set_cons_succ]
      refine wpAnyH_done (by kernel_rfl) ?_ _
      have hH := hHeld
      go_wp2_with fail
      go_meet
      exact ⟨rfl, hH.1⟩
    · have b1t := (F1.out rfl).1
      subst b1t
      first | (go_region_held3 (fun w' => BxF v0 p s p' s' w' ∧ w'.cell? ⟨v0.heap.size, 0, none⟩ = some (.int .i64 p) ∧ w'.cell? ⟨v0.heap.size, 1, none⟩ = some (.int .i64 s))
          (first | assumption | exact BxF.keep (by first | assumption | exact HF.out) (by first | assumption | exact qc (Below.refl _ _)))
          (first | ((go_at_call 10; (with_reducible refine (H5.out _).mono ?_); rintro e w' ⟨rfl, hb'⟩)) | ((go_at_call 11; (with_reducible refine (H6.out _).mono ?_); rintro e w' ⟨rfl, hb'⟩)))) | fail
      rename_i hHeld
      have hH := hHeld
      go_wp2_with fail
      go_meet
      exact ⟨rfl, hH.1⟩
  case rest =>
  as_aux_lemma =>
  obtain ⟨rfl, hcut⟩ := hcut
  clear HB
  have HB := jb.mk hcut
  obtain ⟨c0, c1, c2, c3⟩ := hcut.2
  clear hcut
  go_upto_if 159 with fail
  go_cut [] from 159 to 159 (fun wc => B2 v0 p s p' s' wc)
  case first =>
    as_aux_lemma =>
    cases ok
    · cases b1
      · go_wp2_with (first
          | (go_at_call 10; (with_reducible refine (H5.out _).mono ?_); rintro e w1 ⟨rfl, hb1⟩; replace HB := jb.mk (HB.out.step hb1); (try clear c0 c1 c2 c3); obtain ⟨c0, c1, c2, c3⟩ := HB.out.2; clear hb1))
        go_meet
        exact HB.out
      · cases b2
        · go_wp2_with (first
            | (go_at_call 10; (with_reducible refine (H5.out _).mono ?_); rintro e w1 ⟨rfl, hb1⟩; replace HB := jb.mk (HB.out.step hb1); (try clear c0 c1 c2 c3); obtain ⟨c0, c1, c2, c3⟩ := HB.out.2; clear hb1)
            | (go_at_call 10; (with_reducible refine (H7.out _).mono ?_); rintro e w1 ⟨rfl, hb1⟩; replace HB := jb.mk (HB.out.step hb1); (try clear c0 c1 c2 c3); obtain ⟨c0, c1, c2, c3⟩ := HB.out.2; clear hb1))
          go_meet
          exact HB.out
        · obtain ⟨q1, q2⟩ := F2.out rfl rfl rfl
          have e1 : (p == p') = false := beq_eq_false_iff_ne.mpr q1
          have e2 : decide (wrap64 (wrap64 (p' - p) * wrap64 (s - s')) > 0) = false := decide_eq_false (by omega)
          have e3 : decide (0 < wrap64 (wrap64 (p' - p) * wrap64 (s - s'))) = false := decide_eq_false (by omega)
          clear q1 q2
          go_wp2_with (first
            | (go_at_call 10; (with_reducible refine (H5.out _).mono ?_); rintro e w1 ⟨rfl, hb1⟩; replace HB := jb.mk (HB.out.step hb1); (try clear c0 c1 c2 c3); obtain ⟨c0, c1, c2, c3⟩ := HB.out.2; clear hb1)
            | (go_at_call 10; (with_reducible refine (H7.out _).mono ?_); rintro e w1 ⟨rfl, hb1⟩; replace HB := jb.mk (HB.out.step hb1); (try clear c0 c1 c2 c3); obtain ⟨c0, c1, c2, c3⟩ := HB.out.2; clear hb1))
          go_meet
          exact HB.out
    · obtain ⟨_, q1, q2, q3, a1, a2, a3⟩ := F1.out rfl
      have G1 := jb.mk a1
      have G2 := jb.mk a2
      have G3 := jb.mk a3
      have e1 : decide (num < 0) = false := decide_eq_false (by omega)
      clear a1 a2 a3 q3
      go_wp2_with (first
        | (go_at_call 6; (with_reducible refine (G1.out _).mono ?_); rintro e w1 ⟨rfl, hb1⟩; replace HB := jb.mk (HB.out.step hb1); (try clear c0 c1 c2 c3); obtain ⟨c0, c1, c2, c3⟩ := HB.out.2; clear hb1)
        | (go_at_call 12; (with_reducible refine (G2.out _).mono ?_); rintro e w1 ⟨rfl, hb1⟩; replace HB := jb.mk (HB.out.step hb1); (try clear c0 c1 c2 c3); obtain ⟨c0, c1, c2, c3⟩ := HB.out.2; clear hb1)
        | (go_at_call 12; (with_reducible refine (G3.out _).mono ?_); rintro e w1 ⟨rfl, hb1⟩; replace HB := jb.mk (HB.out.step hb1); (try clear c0 c1 c2 c3); obtain ⟨c0, c1, c2, c3⟩ := HB.out.2; clear hb1))
      go_meet
      exact HB.out
  case rest =>
  as_aux_lemma =>
  clear HB
  have HB := jb.mk hcut
  obtain ⟨c0, c1, c2, c3⟩ := hcut.2
  have HWc := jb.mk (HW0.out.trans (hcut.1.mono HW0.out.size))
  clear hcut F1 F2 H1 H2 H3 H4 H5 H6 H7 HB HW0 c0 c1 c2 c3
  go_wp2_with fail
  (with_reducible refine (HD2.out _ HWc.out).mono ?_)
  rintro e v1 ⟨l, QA, cA, rfl, hlc, hl, hl2, hb1⟩
  have HW1 := jb.mk (HWc.out.trans (hb1.mono HWc.out.size))
  obtain ⟨K, rs, three, cnt, txt, hAM, hsAM, hYR, hCM, hsCM, hWT, hsWT, hAW, hsAW, f3⟩ := HLO.out l hl2
  have HL := jb.mk hl
  have HLC := jb.mk hlc
  have HAM := jb.mk hAM
  have HSAM := jb.mk hsAM
  have HYR := jb.mk hYR
  have HCM := jb.mk hCM
  have HSCM := jb.mk hsCM
  have HWT := jb.mk hWT
  have HSWT := jb.mk hsWT
  have HAW := jb.mk hAW
  have HSAW := jb.mk hsAW
  have F3 := jb.mk f3
  have HT := jb.mk (HT0.out.step HW1.out)
  have HB := jb.mk (Below.refl v1.heap.size v1)
  have HL2 := jb.mk hl2
  clear hlc hl hl2 hb1 hAM hsAM hYR hCM hsCM hWT hsWT hAW hsAW f3 HWc HLO HD2
  go_upto_region 24 with (first
      | (go_at_call 14; (with_reducible refine (impl_AllMeetings.own _ _ l rs three _ (Kd.C_below HL.out HB.out) HLC.out HAM.out).mono ?_); rintro e w1 ⟨v7, rfl, hRR⟩; obtain ⟨gs, hRS⟩ := hRR.RS; obtain ⟨A7, n7, e7⟩ := Kd.R_slice hRS.R; subst e7; have R7 := jb.mk hRS; have hb1 := hRR.choose_spec.1; clear hRS hRR; replace HB := jb.mk (HB.out.trans (hb1.mono HB.out.size)); clear hb1)
      | (go_at_call 15; (with_reducible refine (spec_AllMeetings.calls K _ _ l rs three _ (Kd.C_below HL.out HB.out) HLC.out HSAM.out).mono ?_); rintro e w1 ⟨v8, rfl, hN, hb1⟩; obtain ⟨A8, n8, e8⟩ := Kd.N_slice hN; subst e8; have N7 := jb.mk hN; clear hN; replace R7 := jb.mk (R7.out.below hb1);  replace HB := jb.mk (HB.out.trans (hb1.mono HB.out.size)); clear hb1)
      | (go_at_call 16; (with_reducible refine (HCM.out _ _ _ (Kd.C_below HL.out HB.out) HLC.out).mono ?_); rintro e w1 ⟨rfl, hb1⟩; replace R7 := jb.mk (R7.out.below hb1);  replace N7 := jb.mk (Kd.N_below N7.out hb1); replace HB := jb.mk (HB.out.trans (hb1.mono HB.out.size)); clear hb1)
      | (go_at_call 17; (with_reducible refine (HSCM.out _ _ _ (Kd.C_below HL.out HB.out) HLC.out).mono ?_); rintro e w1 ⟨rfl, hb1⟩; replace R7 := jb.mk (R7.out.below hb1);  replace N7 := jb.mk (Kd.N_below N7.out hb1); replace HB := jb.mk (HB.out.trans (hb1.mono HB.out.size)); clear hb1)
      | (go_at_call 18; (with_reducible refine (HWT.out _ _ _ (HT.out.step HB.out).one (Kd.C_below HL.out HB.out) HLC.out).mono ?_); rintro e w1 ⟨rfl, hb1⟩; replace R7 := jb.mk (R7.out.below hb1);  replace N7 := jb.mk (Kd.N_below N7.out hb1);  replace HB := jb.mk (HB.out.trans (hb1.mono HB.out.size)); clear hb1)
      | (go_at_call 19; (with_reducible refine (HSWT.out _ _ _ (Kd.C_below HL.out HB.out) HLC.out).mono ?_); rintro e w1 ⟨rfl, hb1⟩; replace R7 := jb.mk (R7.out.below hb1);  replace N7 := jb.mk (Kd.N_below N7.out hb1); replace HB := jb.mk (HB.out.trans (hb1.mono HB.out.size)); clear hb1))
  go_wp2_with fail
  (with_reducible refine (HD3.out _ (HW1.out.trans (HB.out.mono HW1.out.size))).mono ?_)
  rintro e v2 ⟨q, z, top, low, rfl, hb1⟩
  replace R7 := jb.mk (R7.out.below hb1)
  replace N7 := jb.mk (Kd.N_below N7.out hb1)
  have HW2 := jb.mk ((HW1.out.trans (HB.out.mono HW1.out.size)).trans (hb1.mono (HW1.out.trans (HB.out.mono HW1.out.size)).size))
  replace HL := jb.mk (Kd.C_below (Kd.C_below HL.out HB.out) hb1)
  replace HT := jb.mk (HT0.out.step HW2.out)
  obtain ⟨at', of', nine, hWP, hsWP, f9⟩ := HWO.out q z top low
  have HWP := jb.mk hWP
  have HSWP := jb.mk hsWP
  have F9 := jb.mk f9
  clear hWP hsWP f9 hb1 HB HW1 HWO HD3
  have HB := jb.mk (B1.start v2 q z 25)
  replace R7 := jb.mk (R7.out.below HB.out.1)
  replace N7 := jb.mk (Kd.N_below N7.out HB.out.1)
  obtain ⟨c0, c1⟩ := HB.out.2
  go_upto_region 27 with (first
      | (go_at_call 21; (with_reducible refine (HWP.out _).mono ?_); rintro e w1 ⟨rfl, hb1⟩; replace R7 := jb.mk (R7.out.below hb1);  replace N7 := jb.mk (Kd.N_below N7.out hb1); replace HB := jb.mk (HB.out.step hb1); (try clear c0 c1); obtain ⟨c0, c1⟩ := HB.out.2; clear hb1)
      | (go_at_call 22; (with_reducible refine (HSWP.out _).mono ?_); rintro e w1 ⟨rfl, hb1⟩; replace R7 := jb.mk (R7.out.below hb1);  replace N7 := jb.mk (Kd.N_below N7.out hb1); replace HB := jb.mk (HB.out.step hb1); (try clear c0 c1); obtain ⟨c0, c1⟩ := HB.out.2; clear hb1))
  go_wp2_with fail
  (with_reducible refine (HD4.out _ (HW2.out.trans (HB.out.1.mono HW2.out.size))).mono ?_)
  rintro e v3 ⟨p3, s3, p4, s4, m, n, rfl, hb1⟩
  replace R7 := jb.mk (R7.out.below hb1)
  replace N7 := jb.mk (Kd.N_below N7.out hb1)
  have HW3 := jb.mk ((HW2.out.trans (HB.out.1.mono HW2.out.size)).trans (hb1.mono (HW2.out.trans (HB.out.1.mono HW2.out.size)).size))
  replace HL := jb.mk (Kd.C_below (Kd.C_below HL.out HB.out.1) hb1)
  replace HT := jb.mk (HT0.out.step HW3.out)
  obtain ⟨gap, wide, eleven, hGA, hsGA, f11⟩ := HGO.out p3 s3 p4 s4 m n
  have HGA := jb.mk hGA
  have HSGA := jb.mk hsGA
  have F11 := jb.mk f11
  have HB' := jb.mk (HB.out.step hb1)
  clear hGA hsGA f11 hb1 HB HW2 HGO HD4 HWP HSWP c0 c1
  have u0 := HB'.out.2.1
  have u1 := HB'.out.2.2
  clear HB'
  generalize v2.heap.size = gu at u0 u1 ⊢
  have HB := jb.mk (B3.start v3 gu q z p3 s3 p4 s4 25 u0 u1)
  clear u0 u1
  replace R7 := jb.mk (R7.out.below HB.out.1)
  replace N7 := jb.mk (Kd.N_below N7.out HB.out.1)
  obtain ⟨c0, c1, c2, c3, c4, c5⟩ := HB.out.2
  go_upto_region 30 with (first
      | (go_at_call 24; (with_reducible refine (HGA.out _).mono ?_); rintro e w1 ⟨rfl, hb1⟩; replace R7 := jb.mk (R7.out.below hb1);  replace N7 := jb.mk (Kd.N_below N7.out hb1); replace HB := jb.mk (HB.out.step hb1); (try clear c0 c1 c2 c3 c4 c5); obtain ⟨c0, c1, c2, c3, c4, c5⟩ := HB.out.2; clear hb1)
      | (go_at_call 25; (with_reducible refine (HSGA.out _).mono ?_); rintro e w1 ⟨rfl, hb1⟩; replace R7 := jb.mk (R7.out.below hb1);  replace N7 := jb.mk (Kd.N_below N7.out hb1); replace HB := jb.mk (HB.out.step hb1); (try clear c0 c1 c2 c3 c4 c5); obtain ⟨c0, c1, c2, c3, c4, c5⟩ := HB.out.2; clear hb1))
  go_wp2_with fail
  (with_reducible refine (HD5.out _ (HW3.out.trans (HB.out.1.mono HW3.out.size))).mono ?_)
  rintro e w1 ⟨word, rfl, hws, hb1⟩
  obtain ⟨Kp, lp, thirteen, hPW, hsPW, hYW, f13⟩ := HPO.out word hws
  have HPW := jb.mk hPW
  have HSPW := jb.mk hsPW
  have HYW := jb.mk hYW
  have F13 := jb.mk f13
  clear hPW hsPW hYW f13 hws HPO HD5 HGA HSGA
  replace R7 := jb.mk (R7.out.below hb1);  replace N7 := jb.mk (Kd.N_below N7.out hb1);  replace HB := jb.mk (HB.out.step hb1); (try clear c0 c1 c2 c3 c4 c5); obtain ⟨c0, c1, c2, c3, c4, c5⟩ := HB.out.2; clear hb1
  go_upto_if 438 with (first
      | (go_at_call 27; (with_reducible refine (HPW.out _ (HT.out.step HB.out.1)).mono ?_); rintro e w1 ⟨v9, rfl, hP, hb1⟩; obtain ⟨A9, n9, e9⟩ := Kd.R_slice hP; subst e9; have P7 := jb.mk hP; clear hP; replace R7 := jb.mk (R7.out.below hb1);  replace N7 := jb.mk (Kd.N_below N7.out hb1);  replace HB := jb.mk (HB.out.step hb1); (try clear c0 c1 c2 c3 c4 c5); obtain ⟨c0, c1, c2, c3, c4, c5⟩ := HB.out.2; clear hb1)
      | (go_at_call 28; (with_reducible refine (spec_ParseWalkers.calls Kp word lp thirteen _ HSPW.out).mono ?_); rintro e w1 ⟨vv, rfl, hP, hb1⟩; obtain ⟨Aq, cq, eq⟩ := Kd.R_slice hP; subst eq; have Q7 := jb.mk hP; clear hP; replace R7 := jb.mk (R7.out.below hb1);  replace N7 := jb.mk (Kd.N_below N7.out hb1);  replace P7 := jb.mk (Kd.R_below P7.out hb1);  replace HB := jb.mk (HB.out.step hb1); (try clear c0 c1 c2 c3 c4 c5); obtain ⟨c0, c1, c2, c3, c4, c5⟩ := HB.out.2; clear hb1)
      | (go_at_call 29; (with_reducible refine (laws_yRows.calls K _ _ rs _ _ rs true _ (Kd.R_reads' R7.out.R).2.2 (Kd.R_reads' R7.out.R).2.1 (Kd.N_reads' N7.out).2.2 (Kd.N_reads' N7.out).2.1 HYR.out).mono ?_); rintro e w1 ⟨rfl, hd⟩; have hb1 := (by first | exact hd.below | exact hd : Below _ _ w1); clear hd; replace R7 := jb.mk (R7.out.below hb1);  replace P7 := jb.mk (Kd.R_below P7.out hb1);  replace Q7 := jb.mk (Kd.R_below Q7.out hb1);  clear N7; replace HB := jb.mk (HB.out.step hb1); (try clear c0 c1 c2 c3 c4 c5); obtain ⟨c0, c1, c2, c3, c4, c5⟩ := HB.out.2; clear hb1)
      | (go_at_call 30; (with_reducible refine (laws_yWalkers.calls Kp _ _ lp _ _ lp true _ (Kd.R_reads' P7.out).2.2 (Kd.R_reads' P7.out).2.1 (Kd.R_reads' Q7.out).2.2 (Kd.R_reads' Q7.out).2.1 HYW.out).mono ?_); rintro e w1 ⟨rfl, hd⟩; have hb1 := (by first | exact hd.below | exact hd : Below _ _ w1); clear hd; replace R7 := jb.mk (R7.out.below hb1);  replace P7 := jb.mk (Kd.R_below P7.out hb1);  clear Q7; replace HB := jb.mk (HB.out.step hb1); (try clear c0 c1 c2 c3 c4 c5); obtain ⟨c0, c1, c2, c3, c4, c5⟩ := HB.out.2; clear hb1)
      | (go_at_call 31; (with_reducible refine (HAW.out _ _ _ (Kd.C_below HL.out HB.out.1) HLC.out).mono ?_); rintro e w1 ⟨rfl, hb1⟩; replace R7 := jb.mk (R7.out.below hb1);  replace P7 := jb.mk (Kd.R_below P7.out hb1); replace HB := jb.mk (HB.out.step hb1); (try clear c0 c1 c2 c3 c4 c5); obtain ⟨c0, c1, c2, c3, c4, c5⟩ := HB.out.2; clear hb1)
      | (go_at_call 32; (with_reducible refine (HSAW.out _ _ _ (Kd.C_below HL.out HB.out.1) HLC.out).mono ?_); rintro e wB ⟨rfl, hb1⟩; replace R7 := jb.mk (R7.out.below hb1);  replace P7 := jb.mk (Kd.R_below P7.out hb1);  replace HB := jb.mk (HB.out.step hb1); (try clear c0 c1 c2 c3 c4 c5); obtain ⟨c0, c1, c2, c3, c4, c5⟩ := HB.out.2; clear hb1))
  go_cut [] from 438 to 438 (fun wc => B3 v3 gu q z p3 s3 p4 s4 wc ∧ Below wB.heap.size wB wc)
  case first =>
    as_aux_lemma =>
    cases three
    · go_wp2_with fail
      go_meet
      exact ⟨HB.out, Below.refl _ _⟩
    · obtain ⟨hrl, e1, hrow, hpt, hyw⟩ := F3.out rfl
      subst e1
      have HROW := jb.mk hrow
      have HPT := jb.mk hpt
      have HYL := jb.mk hyw
      clear hrow hpt hyw F3 F9 F11 F13 P7
      go_wp2_with fail
      go_loopg [445] rs.length (fun gg vi wr => ∃ i : Int, vi = .int .i64 i ∧ 0 ≤ i ∧ i ≤ rs.length ∧ (rs.length - i).toNat ≤ gg ∧ jb (B3 v3 gu q z p3 s3 p4 s4 wr) ∧ jb (Below wB.heap.size wB wr))
      case atStart => exact ⟨0, by go_num, by omega, by omega, by omega, HB, ⟨Below.refl _ _⟩⟩
      case round =>
        clear HB
        obtain ⟨i, rfl, hi0, hin, hgg, HB, HBB⟩ := hrel
        by_cases hlt : i < (rs.length : Int)
        · as_aux_lemma =>
          obtain ⟨a, b, c, d, hr4, ha0, hab, hbl, hMT, hprev⟩ := HROW.out i.toNat (by omega)
          obtain ⟨ra, rb, rc, rd⟩ := hr4
          obtain ⟨ad, g, eA, hc⟩ := R7.out.row i.toNat (by omega)
          subst eA
          rw [ra, rb, rc, rd] at hc
          have HMT := jb.mk hMT
          have HPV := jb.mk hprev
          clear hprev
          obtain ⟨adl, eL, hla⟩ := wAt v3 QA l HL.out a.toNat (by omega)
          subst eL
          obtain ⟨adl2, eL, hlb⟩ := wAt v3 (some adl) l HL.out b.toNat (by omega)
          cases eL
          generalize (l.getD a.toNat z25).f0 = x0 at *
          generalize (l.getD a.toNat z25).f1 = x1 at *
          generalize (l.getD b.toNat z25).f0 = y0 at *
          generalize (l.getD b.toNat z25).f1 = y1 at *
          clear hMT ra rb rc rd HROW HPT HYL
          have HS := jb.mk (show RowS wr g a b (adl.add (a.toNat * 2)) (adl.add (b.toNat * 2)) x0 x1 y0 y1 wr from ⟨Below.refl _ _, (hc _ HBB.out).2.1, (hc _ HBB.out).2.2.1, (hla _ HB.out.1).1, (hla _ HB.out.1).2, (hlb _ HB.out.1).1, (hlb _ HB.out.1).2⟩)
          obtain ⟨k4, k0, k1, k2, k3⟩ := hc _ HBB.out
          have al : a < (l.length : Int) := by omega
          have b0 : (0 : Int) ≤ b := by omega
          have wadd : wrap64 (i + 1) = i + 1 := by unfold wrap64; omega
          have wadd' : IntKind.i64.wrap (i + 1) = i + 1 := by rw [IntKind.wrap_i64]; omega
          have t1 : decide (a ≥ b) = false := decide_eq_false (by omega)
          have t2 : decide (b ≤ a) = false := decide_eq_false (by omega)
          have t3 : decide (a < 0) = false := decide_eq_false (by omega)
          have t4 : decide (b ≥ (l.length : Int)) = false := decide_eq_false (by omega)
          have t5 : decide ((l.length : Int) ≤ b) = false := decide_eq_false (by omega)
          go_wp2_with fail
          go_quiet (fail)
          go_wp2_with fail
          go_region_held3 (fun w' => Below wr.heap.size wr w' ∧ w'.cell? ⟨g, 0, none⟩ = some (.int .i64 a) ∧ w'.cell? ⟨g, 1, none⟩ = some (.int .i64 b) ∧ w'.cell? (adl.add (a.toNat * 2)) = some (.int .i64 x0) ∧ w'.cell? ⟨(adl.add (a.toNat * 2)).block, (adl.add (a.toNat * 2)).off + 1, none⟩ = some (.int .i64 x1) ∧ w'.cell? (adl.add (b.toNat * 2)) = some (.int .i64 y0) ∧ w'.cell? ⟨(adl.add (b.toNat * 2)).block, (adl.add (b.toNat * 2)).off + 1, none⟩ = some (.int .i64 y1))
            (first | assumption | exact RowS.keep (by first | assumption | exact HS.out) (by first | assumption | exact qc (qa (Below.refl _ _) _) | exact qc (Below.refl _ _)))
            (first | ((go_at_call 6; (with_reducible refine (HMT.out _).mono ?_); rintro e w' ⟨rfl, hb'⟩)))
          rename_i hH
          have HB2 := jb.mk (HB.out.step hH.1)
          have HBB2 := jb.mk (HBB.out.trans (hH.1.mono HBB.out.size))
          clear HB HBB
          obtain ⟨k4, k0, k1, k2, k3⟩ := hc _ HBB2.out
          go_upto_if 510 with fail
          by_cases h0 : 0 < i
          · have d0 : decide (i > 0) = true := decide_eq_true (by omega)
            have d1 : decide (0 < i) = true := decide_eq_true (by omega)
            obtain ⟨a', b', c', d', hr4, ho1, ho2⟩ := HPV.out (by omega)
            obtain ⟨ra, rb, rc, rd⟩ := hr4
            obtain ⟨ad', g', eA, hc'⟩ := R7.out.row (i.toNat - 1) (by omega)
            cases eA
            rw [ra, rb, rc, rd] at hc'
            have p0 : 0 ≤ i - 1 := by omega
            have p1 : i - 1 < (rs.length : Int) := by omega
            have wsub : wrap64 (i - 1) = i - 1 := by unfold wrap64; omega
            have wsub' : IntKind.i64.wrap (i - 1) = i - 1 := by rw [IntKind.wrap_i64]; omega
            obtain ⟨m5, m0, m1, m2, m3⟩ := hc' _ HBB2.out
            have m4 := m5
            rw [show i.toNat - 1 = (i - 1).toNat by omega] at m4
            clear ra rb rc rd HPV hc'
            have q1 : decide (wrap64 (c' * d) > wrap64 (c * d')) = false := decide_eq_false (by omega)
            have q2 : decide (wrap64 (c * d') < wrap64 (c' * d)) = false := decide_eq_false (by omega)
            have HO := jb.mk ho2
            clear ho1 ho2
            go_wp2_with fail
            go_quiet (fail)
            go_wp2_with fail
            have HB3 := jb.mk (HB2.out)
            by_cases he : wrap64 (c' * d) = wrap64 (c * d')
            · obtain ⟨ho2, ho3⟩ := HO.out he
              have e1 : (wrap64 (c' * d) == wrap64 (c * d')) = true := beq_iff_eq.mpr he
              have u1 : decide (a' > a) = false := decide_eq_false (by omega)
              have u2 : decide (a < a') = false := decide_eq_false (by omega)
              clear he ho2
              by_cases ha : a' = a
              · have ho4 := ho3 ha
                have e2 : (a' == a) = true := beq_iff_eq.mpr ha
                have u3 : decide (b' ≥ b) = false := decide_eq_false (by omega)
                have u4 : decide (b ≤ b') = false := decide_eq_false (by omega)
                clear ha ho3 ho4
                as_aux_lemma =>
                go_quiet (fail)
                go_wp2_with fail
                go_roundg (rs.length - (i + 1)).toNat
                case measure => omega
                case rel => exact ⟨i + 1, by go_num, by omega, by omega, by omega, by first | exact HB2 | exact ⟨HB2.out.step (qa (Below.refl _ _) _)⟩, by first | exact HBB2 | exact ⟨qa HBB2.out _⟩⟩
              · have e2 : (a' == a) = false := beq_eq_false_iff_ne.mpr ha
                clear ha ho3
                as_aux_lemma =>
                go_quiet (fail)
                go_wp2_with fail
                go_roundg (rs.length - (i + 1)).toNat
                case measure => omega
                case rel => exact ⟨i + 1, by go_num, by omega, by omega, by omega, by first | exact HB2 | exact ⟨HB2.out.step (qa (Below.refl _ _) _)⟩, by first | exact HBB2 | exact ⟨qa HBB2.out _⟩⟩
            · have e1 : (wrap64 (c' * d) == wrap64 (c * d')) = false := beq_eq_false_iff_ne.mpr he
              clear he
              as_aux_lemma =>
              go_quiet (fail)
              go_wp2_with fail
              go_roundg (rs.length - (i + 1)).toNat
              case measure => omega
              case rel => exact ⟨i + 1, by go_num, by omega, by omega, by omega, by first | exact HB2 | exact ⟨HB2.out.step (qa (Below.refl _ _) _)⟩, by first | exact HBB2 | exact ⟨qa HBB2.out _⟩⟩
          · have d0 : decide (i > 0) = false := decide_eq_false (by omega)
            have d1 : decide (0 < i) = false := decide_eq_false (by omega)
            go_wp2_with fail
            go_roundg (rs.length - (i + 1)).toNat
            case measure => omega
            case rel => exact ⟨i + 1, by go_num, by omega, by omega, by omega, HB2, HBB2⟩
        · have e : i = (rs.length : Int) := by omega
          subst e
          as_aux_lemma =>
          obtain ⟨c0, c1, c2, c3, c4, c5⟩ := HB.out.2
          go_wp2_with (first
            | (go_at_call 27; (with_reducible refine (HPT.out _ (HT.out.step HB.out.1)).mono ?_); rintro e w1 ⟨v9, rfl, hP, hb1⟩; obtain ⟨A9, n9, e9⟩ := Kd.R_slice hP; subst e9; have P7 := jb.mk hP; clear hP; have HBB := jb.mk (HBB.out.trans (hb1.mono HBB.out.size)); replace HB := jb.mk (HB.out.step hb1); (try clear c0 c1 c2 c3 c4 c5); obtain ⟨c0, c1, c2, c3, c4, c5⟩ := HB.out.2; clear hb1)
            | (go_at_call 30; (with_reducible refine (laws_yWalkers.calls K _ _ l _ _ l true _ (Kd.R_reads' P7.out).2.2 (Kd.R_reads' P7.out).2.1 (Kd.C_below HL.out HB.out.1) HLC.out HYL.out).mono ?_); rintro e w1 ⟨rfl, hd⟩; have hb1 := (by first | exact hd.below | exact hd : Below _ _ w1); clear hd; have HBB := jb.mk (HBB.out.trans (hb1.mono HBB.out.size)); replace HB := jb.mk (HB.out.step hb1); (try clear c0 c1 c2 c3 c4 c5); obtain ⟨c0, c1, c2, c3, c4, c5⟩ := HB.out.2; clear hb1))
          go_meet
          exact ⟨HB.out, HBB.out⟩
  case rest =>
  as_aux_lemma =>
  obtain ⟨hcut, hcb⟩ := hcut
  have P7 := jb.mk (Kd.R_below P7.out hcb)
  clear HB F3 hcb
  have HB := jb.mk hcut
  obtain ⟨c0, c1, c2, c3, c4, c5⟩ := hcut.2
  obtain ⟨wC, hwC⟩ : ∃ wC, wC = wc := ⟨_, rfl⟩
  rw [← hwC] at P7
  have HCB := jb.mk (show Below wC.heap.size wC wc by rw [hwC]; exact Below.refl _ _)
  clear hcut hwC
  go_upto_region 55 with fail
  go_cut [602] from 579 to 602 (fun v602 wd => v602 = .bool false ∧ B3 v3 gu q z p3 s3 p4 s4 wd ∧ Below wC.heap.size wC wd)
  case first =>
    as_aux_lemma =>
    cases nine
    · go_wp2_with fail
      go_meet
      exact ⟨rfl, HB.out, HCB.out⟩
    · obtain ⟨a1, q1⟩ := F9.out rfl
      have G1 := jb.mk a1
      clear a1
      go_wp2_with (go_at_call 12; (with_reducible refine (G1.out _).mono ?_); rintro e w1 ⟨rfl, hb1⟩; have HCB := jb.mk (HCB.out.trans (hb1.mono HCB.out.size)); replace HB := jb.mk (HB.out.step hb1); (try clear c0 c1 c2 c3 c4 c5); obtain ⟨c0, c1, c2, c3, c4, c5⟩ := HB.out.2; clear hb1)
      go_meet
      exact ⟨rfl, HB.out, HCB.out⟩
  case rest =>
  as_aux_lemma =>
  obtain ⟨rfl, hcut, hcb⟩ := hcut
  clear HB HCB F9
  have HB := jb.mk hcut
  have HCB := jb.mk hcb
  obtain ⟨c0, c1, c2, c3, c4, c5⟩ := hcut.2
  clear hcut hcb
  go_upto_if 603 with fail
  go_cut [] from 603 to 603 (fun wd => B3 v3 gu q z p3 s3 p4 s4 wd ∧ Below wC.heap.size wC wd)
  case first =>
    as_aux_lemma =>
    cases eleven
    · go_wp2_with fail
      go_meet
      exact ⟨HB.out, HCB.out⟩
    · obtain ⟨a1, g0, a2, sz, hsz, q1, q2⟩ := F11.out rfl
      have G1 := jb.mk a1
      have G2 := jb.mk a2
      have e1 : decide (gap < 0) = false := decide_eq_false (by omega)
      clear a1 a2 g0
      by_cases hz : sz < 0
      · have q1 := q1 hz
        have e2 : decide (sz < 0) = true := decide_eq_true hz
        rw [← hsz] at q1 e2
        clear q2 hz hsz
        go_wp2_with (first
          | (go_at_call 24; (with_reducible refine (G2.out _).mono ?_); rintro e w1 ⟨rfl, hb1⟩; have HCB := jb.mk (HCB.out.trans (hb1.mono HCB.out.size)); replace HB := jb.mk (HB.out.step hb1); (try clear c0 c1 c2 c3 c4 c5); obtain ⟨c0, c1, c2, c3, c4, c5⟩ := HB.out.2; clear hb1)
          | (go_at_call 12; (with_reducible refine (G1.out _).mono ?_); rintro e w1 ⟨rfl, hb1⟩; have HCB := jb.mk (HCB.out.trans (hb1.mono HCB.out.size)); replace HB := jb.mk (HB.out.step hb1); (try clear c0 c1 c2 c3 c4 c5); obtain ⟨c0, c1, c2, c3, c4, c5⟩ := HB.out.2; clear hb1))
        go_meet
        exact ⟨HB.out, HCB.out⟩
      · have q2 := q2 hz
        have e2 : decide (sz < 0) = false := decide_eq_false hz
        rw [← hsz] at q2 e2
        clear q1 hz hsz
        go_wp2_with (first
          | (go_at_call 24; (with_reducible refine (G2.out _).mono ?_); rintro e w1 ⟨rfl, hb1⟩; have HCB := jb.mk (HCB.out.trans (hb1.mono HCB.out.size)); replace HB := jb.mk (HB.out.step hb1); (try clear c0 c1 c2 c3 c4 c5); obtain ⟨c0, c1, c2, c3, c4, c5⟩ := HB.out.2; clear hb1)
          | (go_at_call 12; (with_reducible refine (G1.out _).mono ?_); rintro e w1 ⟨rfl, hb1⟩; have HCB := jb.mk (HCB.out.trans (hb1.mono HCB.out.size)); replace HB := jb.mk (HB.out.step hb1); (try clear c0 c1 c2 c3 c4 c5); obtain ⟨c0, c1, c2, c3, c4, c5⟩ := HB.out.2; clear hb1))
        go_meet
        exact ⟨HB.out, HCB.out⟩
  case rest =>
  as_aux_lemma =>
  obtain ⟨hcut, hcb⟩ := hcut
  clear HB HCB F11
  have HB := jb.mk hcut
  have P7 := jb.mk (Kd.R_below P7.out hcb)
  obtain ⟨c0, c1, c2, c3, c4, c5⟩ := hcut.2
  clear hcut hcb
  cases thirteen
  · go_wp2_with fail
    go_ret
    exact ⟨rfl, HW3.out.trans (HB.out.1.mono HW3.out.size)⟩
  · have G1 := jb.mk (F13.out rfl)
    go_wp2_with (go_at_call 18; (with_reducible refine (G1.out _ _ _ (HT.out.step HB.out.1).one (Kd.R_reads' P7.out).2.2 (Kd.R_reads' P7.out).2.1).mono ?_); rintro e w1 ⟨rfl, hb1⟩; replace HB := jb.mk (HB.out.step hb1); (try clear c0 c1 c2 c3 c4 c5); obtain ⟨c0, c1, c2, c3, c4, c5⟩ := HB.out.2; clear hb1)
    go_ret
    exact ⟨rfl, HW3.out.trans (HB.out.1.mono HW3.out.size)⟩
end Go.Proofs.YtoideilmkcpilaaGreatDoor.OFnWalkersMeet
