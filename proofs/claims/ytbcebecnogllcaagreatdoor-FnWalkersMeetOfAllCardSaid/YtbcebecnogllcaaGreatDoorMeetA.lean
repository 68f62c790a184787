/- The law FnWalkersMeetOfAll walked to its end, its callees' answers known. -/
import Derived.Test.YtbcebecnogllcaaGreatDoorMeetD
namespace Go.Proofs.YtbcebecnogllcaaGreatDoor.OFnWalkersMeetOfAll
open Go.RowKit Go.Proofs.YtbcebecnogllcaaGreatDoor.Tx Go.Proofs.YtbcebecnogllcaaGreatDoorW.PrintWords Go.Proofs.YtbcebecnogllcaaGreatDoorW.PrintLast Go.Proofs.YtbcebecnogllcaaGreatDoorW.PrintMore
set_option linter.unusedVariables false
set_option linter.unusedSimpArgs false
set_option maxHeartbeats 8000000 in
set_option maxRecDepth 100000 in
theorem meetA.big (QA : Option Addr) (cA : Nat) (l : List S23) (w0 : World) (p s p' s' q z top low p3 s3 p4 s4 m n : Int) (word : ByteArray) (hm : l.length ≤ maxLen) (hsz : word.size ≤ 140737488351232) (h : (10000 : Int) < (l.length : Int) ∨ (1048576 : Int) < (word.size : Int)) :
    Calls Tryz.prog 3 #[.agg #[.int .i64 p, .int .i64 s], .agg #[.int .i64 p', .int .i64 s'], .slice QA l.length cA, .agg #[.int .i64 q, .int .i64 z], .int .i64 top, .int .i64 low, .agg #[.int .i64 p3, .int .i64 s3], .agg #[.int .i64 p4, .int .i64 s4], .int .i64 m, .int .i64 n, .string word] w0 fun e w' => e = .returned (.bool true) ∧ Below w0.heap.size w0 w' := by
  have hu := Tryz.underlying23
  have HB := Aside0.mk (Bx.start w0 p s p' s' q z p3 s3 p4 s4 23)
  unfold maxLen at hm
  by_cases c : (10000 : Int) < (l.length : Int)
  · have g1 : decide ((10000 : Int) < (l.length : Int)) = true := decide_eq_true c
    have g2 : decide (10000 < l.length) = true := decide_eq_true (by omega)
    clear h c
    go_enter Tryz.func3, Tryz.ntmps3
    go_wp2_with fail
    go_ret
    exact ⟨rfl, HB.out.1⟩
  · have g1 : decide ((10000 : Int) < (l.length : Int)) = false := decide_eq_false c
    have g2 : decide (10000 < l.length) = false := decide_eq_false (by omega)
    have g3 : decide ((1048576 : Int) < (word.size : Int)) = true := decide_eq_true (by omega)
    have g4 : decide (1048576 < word.size) = true := decide_eq_true (by omega)
    clear h c
    go_enter Tryz.func3, Tryz.ntmps3
    go_wp2_with fail
    go_ret
    exact ⟨rfl, HB.out.1⟩
set_option maxHeartbeats 60000000 in
set_option maxRecDepth 100000 in
theorem meetA (QA : Option Addr) (cA : Nat) (l : List S23) (w0 : World) (p s p' s' q z top low p3 s3 p4 s4 m n : Int) (word : ByteArray)
    (hlen : (l.length : Int) ≤ 10000) (hword : (word.size : Int) ≤ 1048576) (hl : Kd.C k23 w0 QA l.length l) (hlc : l.length ≤ cA)
    (num den place part : Int) (ok b1 b2 : Bool)
    (h1 : An 4 #[.agg #[.int .i64 p, .int .i64 s], .agg #[.int .i64 p', .int .i64 s']] (.tuple #[.int .i64 num, .int .i64 den, .bool ok]))
    (h2 : An 5 #[.agg #[.int .i64 p, .int .i64 s], .agg #[.int .i64 p', .int .i64 s']] (.tuple #[.int .i64 num, .int .i64 den, .bool ok]))
    (h3 : An 6 #[.agg #[.int .i64 p, .int .i64 s], .agg #[.int .i64 p', .int .i64 s']] (.tuple #[.int .i64 place, .int .i64 part, .bool ok]))
    (h4 : An 7 #[.agg #[.int .i64 p, .int .i64 s], .agg #[.int .i64 p', .int .i64 s']] (.tuple #[.int .i64 place, .int .i64 part, .bool ok]))
    (h5 : An 8 #[.agg #[.int .i64 p, .int .i64 s]] (.bool b1)) (h6 : An 9 #[.agg #[.int .i64 p, .int .i64 s]] (.bool b1)) (h7 : An 8 #[.agg #[.int .i64 p', .int .i64 s']] (.bool b2))
    (f1 : ok = true → b1 = true ∧ FOk p s p' s' num den place part) (f2 : ok = false → b1 = true → b2 = true → FNo p s p' s')
    (K : Nat) (rs : List (List Int)) (three : Bool) (hAM : impl_AllMeetings.f l = some (rs, three)) (hsAM : spec_AllMeetings.f K l = some (rs, three)) (hYR : laws_yRows.f K rs rs = some true)
    (cnt : Int) (hCM : AnL 13 l (.tuple #[.int .i64 cnt, .bool three])) (hsCM : AnL 14 l (.tuple #[.int .i64 cnt, .bool three]))
    (txt : ByteArray) (hWT : AnT 15 l (.tuple #[.string txt, .bool three])) (hsWT : AnL 16 l (.tuple #[.string txt, .bool three]))
    (at' of' : Int) (nine : Bool) (hWP : An 17 #[.agg #[.int .i64 q, .int .i64 z], .int .i64 top, .int .i64 low] (.tuple #[.int .i64 at', .int .i64 of', .bool nine])) (hsWP : An 18 #[.agg #[.int .i64 q, .int .i64 z], .int .i64 top, .int .i64 low] (.tuple #[.int .i64 at', .int .i64 of', .bool nine]))
    (gap wide : Int) (eleven : Bool) (hGA : An 19 #[.agg #[.int .i64 p3, .int .i64 s3], .agg #[.int .i64 p4, .int .i64 s4], .int .i64 m, .int .i64 n] (.tuple #[.int .i64 gap, .int .i64 wide, .bool eleven])) (hsGA : An 20 #[.agg #[.int .i64 p3, .int .i64 s3], .agg #[.int .i64 p4, .int .i64 s4], .int .i64 m, .int .i64 n] (.tuple #[.int .i64 gap, .int .i64 wide, .bool eleven]))
    (lp : List S23) (thirteen : Bool) (hPW : ∀ W : World, T2 W → Calls Tryz.prog 21 #[.string word] W (PwPost lp thirteen W)) (hsPW : spec_ParseWalkers.f K word = some (lp, thirteen)) (hYW : laws_yWalkers.f K lp lp = some true)
    (hAW : AnL 25 l (.bool three)) (hsAW : AnL 26 l (.bool three))
    (f3 : three = true → FThree K l rs cnt txt) (f9 : nine = true → FNine q z top low at' of') (f11 : eleven = true → FEleven p3 s3 p4 s4 m n gap wide) (f13 : thirteen = true → AnT 15 lp (.tuple #[.string word, .bool true])) (ht : T2 w0) :
    Calls Tryz.prog 3 #[.agg #[.int .i64 p, .int .i64 s], .agg #[.int .i64 p', .int .i64 s'], .slice QA l.length cA, .agg #[.int .i64 q, .int .i64 z], .int .i64 top, .int .i64 low, .agg #[.int .i64 p3, .int .i64 s3], .agg #[.int .i64 p4, .int .i64 s4], .int .i64 m, .int .i64 n, .string word] w0 fun e w' => e = .returned (.bool true) ∧ Below w0.heap.size w0 w' := by
  have H1 := Aside0.mk h1
  have H2 := Aside0.mk h2
  have H3 := Aside0.mk h3
  have H4 := Aside0.mk h4
  have H5 := Aside0.mk h5
  have H6 := Aside0.mk h6
  have H7 := Aside0.mk h7
  have F1 := Aside0.mk f1
  have F2 := Aside0.mk f2
  have HL := Aside0.mk hl
  have HLC := Aside0.mk hlc
  have HAM := Aside0.mk hAM
  have HSAM := Aside0.mk hsAM
  have HYR := Aside0.mk hYR
  have HCM := Aside0.mk hCM
  have HSCM := Aside0.mk hsCM
  have HWT := Aside0.mk hWT
  have HSWT := Aside0.mk hsWT
  have HWP := Aside0.mk hWP
  have HSWP := Aside0.mk hsWP
  have HGA := Aside0.mk hGA
  have HSGA := Aside0.mk hsGA
  have HPW := Aside0.mk hPW
  have HSPW := Aside0.mk hsPW
  have HYW := Aside0.mk hYW
  have HAW := Aside0.mk hAW
  have HSAW := Aside0.mk hsAW
  have F3 := Aside0.mk f3
  have F9 := Aside0.mk f9
  have F11 := Aside0.mk f11
  have F13 := Aside0.mk f13
  have HT := Aside0.mk ht
  clear hAM hsAM hYR hCM hsCM hWT hsWT hWP hsWP hGA hsGA hPW hsPW hYW hAW hsAW f3 f9 f11 f13 ht
  have hu := Tryz.underlying23
  have mixed : Tryz.prog.follows .mixedOrders = true := by kernel_rfl
  have g1 : decide ((10000 : Int) < (l.length : Int)) = false := decide_eq_false (by omega)
  have g2 : decide (10000 < l.length) = false := decide_eq_false (by omega)
  have g3 : decide ((1048576 : Int) < (word.size : Int)) = false := decide_eq_false (by omega)
  have g4 : decide (1048576 < word.size) = false := decide_eq_false (by omega)
  have HB := Aside0.mk (Bx.start w0 p s p' s' q z p3 s3 p4 s4 23)
  clear h1 h2 h3 h4 h5 h6 h7 f1 f2 hl hlc hlen hword
  go_enter Tryz.func3, Tryz.ntmps3
  go_upto_region 7 with (first
      | (go_at_call 4; (with_reducible refine (H1.out _).mono ?_); rintro e w1 ⟨rfl, hb1⟩; replace HB := Aside0.mk (HB.out.step hb1); (try clear c0 c1 c2 c3 c4 c5 c6 c7 c8 c9); obtain ⟨c0, c1, c2, c3, c4, c5, c6, c7, c8, c9⟩ := HB.out.2; clear hb1)
      | (go_at_call 5; (with_reducible refine (H2.out _).mono ?_); rintro e w1 ⟨rfl, hb1⟩; replace HB := Aside0.mk (HB.out.step hb1); (try clear c0 c1 c2 c3 c4 c5 c6 c7 c8 c9); obtain ⟨c0, c1, c2, c3, c4, c5, c6, c7, c8, c9⟩ := HB.out.2; clear hb1)
      | (go_at_call 6; (with_reducible refine (H3.out _).mono ?_); rintro e w1 ⟨rfl, hb1⟩; replace HB := Aside0.mk (HB.out.step hb1); (try clear c0 c1 c2 c3 c4 c5 c6 c7 c8 c9); obtain ⟨c0, c1, c2, c3, c4, c5, c6, c7, c8, c9⟩ := HB.out.2; clear hb1)
      | (go_at_call 7; (with_reducible refine (H4.out _).mono ?_); rintro e w1 ⟨rfl, hb1⟩; replace HB := Aside0.mk (HB.out.step hb1); (try clear c0 c1 c2 c3 c4 c5 c6 c7 c8 c9); obtain ⟨c0, c1, c2, c3, c4, c5, c6, c7, c8, c9⟩ := HB.out.2; clear hb1))
  go_cut [165] from 118 to 165 (fun v165 wc => v165 = .bool false ∧ Bx w0 p s p' s' q z p3 s3 p4 s4 wc)
  case first =>
    as_aux_lemma =>
    have HF := Aside0.mk (BxF.of HB.out)
    cases ok
    ·
      refine wp_region_held_drew (S := (fun w' => BxF w0 p s p' s' q z p3 s3 p4 s4 w' ∧ w'.cell? ⟨w0.heap.size, 0, none⟩ = some (.int .i64 p) ∧ w'.cell? ⟨w0.heap.size, 1, none⟩ = some (.int .i64 s))) (by kernel_rfl) ?_ (fun hHeld => ?_)
      · (try dsimp only); first | assumption | exact BxF.keep (by first | assumption | exact HF.out) (by first | assumption | exact below_drew1 (Below.refl _ _))
      refine wpAnyH_take (i := 0) (oi := _) (v := ?_) (by simp only [List.getElem?_toArray, List.getElem?_cons_succ, List.getElem?_cons_zero]; exact rfl) (by kernel_rfl) (by kernel_rfl) (by kernel_rfl) (by exact fun _ _ _ h => h) (Or.inl ⟨?_, ?_⟩) (by assumption) ?_
      rotate_left 1
      · exact rfl
      · intro w hSw; (try dsimp only at hSw); go_simp; try with_reducible rfl
      try simp only [Act.put, List.setIfInBounds_toArray, List.set_cons_zero, List.set_cons_succ]
      refine wpAnyH_take (i := 1) (oi := _) (v := ?_) (by simp only [List.getElem?_toArray, List.getElem?_cons_succ, List.getElem?_cons_zero]; exact rfl) (by kernel_rfl) (by kernel_rfl) (by kernel_rfl) (by exact fun _ _ _ h => h) (Or.inl ⟨?_, ?_⟩) (by assumption) ?_
      rotate_left 1
      · exact rfl
      · intro w hSw; (try dsimp only at hSw); go_simp; try with_reducible rfl
      try simp only [Act.put, List.setIfInBounds_toArray, List.set_cons_zero, List.set_cons_succ]
      refine wpAnyH_take (i := 2) (oi := _) (v := ?_) (by simp only [List.getElem?_toArray, List.getElem?_cons_succ, List.getElem?_cons_zero]; exact rfl) (by kernel_rfl) (by kernel_rfl) (by kernel_rfl) (by exact fun _ _ _ h => h) (Or.inl ⟨?_, ?_⟩) (by assumption) ?_
      rotate_left 1
      · exact rfl
      · intro w hSw; (try dsimp only at hSw); go_simp; try with_reducible rfl
      try simp only [Act.put, List.setIfInBounds_toArray, List.set_cons_zero, List.set_cons_succ]
      refine wpAnyH_take (i := 3) (oi := _) (v := ?_) (by simp only [List.getElem?_toArray, List.getElem?_cons_succ, List.getElem?_cons_zero]; exact rfl) (by kernel_rfl) (by kernel_rfl) (by kernel_rfl) (by exact fun _ _ _ h => h) (Or.inl ⟨?_, ?_⟩) (by assumption) ?_
      rotate_left 1
      · exact rfl
      · intro w hSw; (try dsimp only at hSw); go_simp; try with_reducible rfl
      try simp only [Act.put, List.setIfInBounds_toArray, List.set_cons_zero, List.set_cons_succ]
      refine wpAnyH_take (i := 4) (oi := _) (v := ?_) (by simp only [List.getElem?_toArray, List.getElem?_cons_succ, List.getElem?_cons_zero]; exact rfl) (by kernel_rfl) (by kernel_rfl) (by kernel_rfl) (by exact fun _ _ _ h => h) (Or.inl ⟨?_, ?_⟩) (by assumption) ?_
      rotate_left 1
      · exact rfl
      · intro w hSw; (try dsimp only at hSw); go_simp; try with_reducible rfl
      try simp only [Act.put, List.setIfInBounds_toArray, List.set_cons_zero, List.set_cons_succ]
      refine wpAnyH_take (i := 5) (oi := _) (v := ?_) (by simp only [List.getElem?_toArray, List.getElem?_cons_succ, List.getElem?_cons_zero]; exact rfl) (by kernel_rfl) (by kernel_rfl) (by kernel_rfl) (by exact fun _ _ _ h => h) (Or.inl ⟨?_, ?_⟩) (by assumption) ?_
      rotate_left 1
      · exact rfl
      · intro w hSw; (try dsimp only at hSw); go_simp; try with_reducible rfl
      try simp only [Act.put, List.setIfInBounds_toArray, List.set_cons_zero, List.set_cons_succ]
      refine wpAnyH_take (i := 6) (oi := _) (v := ?_) (by simp only [List.getElem?_toArray, List.getElem?_cons_succ, List.getElem?_cons_zero]; exact rfl) (by kernel_rfl) (by kernel_rfl) (by kernel_rfl) (by exact fun _ _ _ h => h) (Or.inl ⟨?_, ?_⟩) (by assumption) ?_
      rotate_left 1
      · exact rfl
      · intro w hSw; (try dsimp only at hSw); go_simp; try with_reducible rfl
      try simp only [Act.put, List.setIfInBounds_toArray, List.set_cons_zero, List.set_cons_succ]
      refine wpAnyH_take (i := 7) (oi := _) (v := ?_) (by simp only [List.getElem?_toArray, List.getElem?_cons_succ, List.getElem?_cons_zero]; exact rfl) (by kernel_rfl) (by kernel_rfl) (by kernel_rfl) (by exact fun _ _ _ h => h) (Or.inl ⟨?_, ?_⟩) (by assumption) ?_
      rotate_left 1
      · exact rfl
      · intro w hSw; (try dsimp only at hSw); go_simp; try with_reducible rfl
      try simp only [Act.put, List.setIfInBounds_toArray, List.set_cons_zero, List.set_cons_succ]
      refine wpAnyH_take (i := 8) (oi := _) (v := ?_) (by simp only [List.getElem?_toArray, List.getElem?_cons_succ, List.getElem?_cons_zero]; exact rfl) (by kernel_rfl) (by kernel_rfl) (by kernel_rfl) (by exact fun _ _ _ h => h) (Or.inl ⟨?_, ?_⟩) (by assumption) ?_
      rotate_left 1
      · exact rfl
      · intro w hSw; (try dsimp only at hSw); go_simp; try with_reducible rfl
      try simp only [Act.put, List.setIfInBounds_toArray, List.set_cons_zero, List.set_cons_succ]
      refine wpAnyH_take (i := 9) (oi := _) (v := ?_) (by simp only [List.getElem?_toArray, List.getElem?_cons_succ, List.getElem?_cons_zero]; exact rfl) (by kernel_rfl) (by kernel_rfl) (by kernel_rfl) (by exact fun _ _ _ h => h) (Or.inl ⟨?_, ?_⟩) (by assumption) ?_
      rotate_left 1
      · exact rfl
      · intro w hSw; (try dsimp only at hSw); go_simp; try with_reducible rfl
      try simp only [Act.put, List.setIfInBounds_toArray, List.set_cons_zero, List.set_cons_succ]
      refine wpAnyH_take (i := 10) (oi := _) (v := ?_) (by simp only [List.getElem?_toArray, List.getElem?_cons_succ, List.getElem?_cons_zero]; exact rfl) (by kernel_rfl) (by kernel_rfl) (by kernel_rfl) (by exact fun _ _ _ h => h) (Or.inl ⟨?_, ?_⟩) (by assumption) ?_
      rotate_left 1
      · exact rfl
      · intro w hSw; (try dsimp only at hSw); go_simp; try with_reducible rfl
      try simp only [Act.put, List.setIfInBounds_toArray, List.set_cons_zero, List.set_cons_succ]
      refine wpAnyH_take (i := 11) (oi := _) (v := ?_) (by simp only [List.getElem?_toArray, List.getElem?_cons_succ, List.getElem?_cons_zero]; exact rfl) (by kernel_rfl) (by kernel_rfl) (by kernel_rfl) (by exact fun _ _ _ h => h) (Or.inl ⟨?_, ?_⟩) (by assumption) ?_
      rotate_left 1
      · exact rfl
      · intro w hSw; (try dsimp only at hSw); go_simp; try with_reducible rfl
      try simp only [Act.put, List.setIfInBounds_toArray, List.set_cons_zero, List.set_cons_succ]
      refine wpAnyH_take (i := 12) (oi := _) (v := ?_) (by simp only [List.getElem?_toArray, List.getElem?_cons_succ, List.getElem?_cons_zero]; exact rfl) (by kernel_rfl) (by kernel_rfl) (by kernel_rfl) (by exact fun _ _ _ h => h) (Or.inl ⟨?_, ?_⟩) (by assumption) ?_
      rotate_left 1
      · exact rfl
      · intro w hSw; (try dsimp only at hSw); go_simp; try with_reducible rfl
      try simp only [Act.put, List.setIfInBounds_toArray, List.set_cons_zero, List.set_cons_succ]
      refine wpAnyH_take (i := 13) (oi := _) (v := ?_) (by simp only [List.getElem?_toArray, List.getElem?_cons_succ, List.getElem?_cons_zero]; exact rfl) (by kernel_rfl) (by kernel_rfl) (by kernel_rfl) (by exact fun _ _ _ h => h) (Or.inl ⟨?_, ?_⟩) (by assumption) ?_
      rotate_left 1
      · exact rfl
      · intro w hSw; (try dsimp only at hSw); go_simp; try with_reducible rfl
      try simp only [Act.put, List.setIfInBounds_toArray, List.set_cons_zero, List.set_cons_succ]
      refine wpAnyH_take (i := 14) (oi := _) (v := ?_) (by simp only [List.getElem?_toArray, List.getElem?_cons_succ, List.getElem?_cons_zero]; exact rfl) (by kernel_rfl) (by kernel_rfl) (by kernel_rfl) (by exact fun _ _ _ h => h) (Or.inl ⟨?_, ?_⟩) (by assumption) ?_
      rotate_left 1
      · exact rfl
      · intro w hSw; (try dsimp only at hSw); go_simp; try with_reducible rfl
      try simp only [Act.put, List.setIfInBounds_toArray, List.set_cons_zero, List.set_cons_succ]
      refine wpAnyH_take (i := 15) (oi := _) (v := ?_) (by simp only [List.getElem?_toArray, List.getElem?_cons_succ, List.getElem?_cons_zero]; exact rfl) (by kernel_rfl) (by kernel_rfl) (by kernel_rfl) (by exact fun _ _ _ h => h) (Or.inl ⟨?_, ?_⟩) (by assumption) ?_
      rotate_left 1
      · exact rfl
      · intro w hSw; (try dsimp only at hSw); go_simp; try with_reducible rfl
      try simp only [Act.put, List.setIfInBounds_toArray, List.set_cons_zero, List.set_cons_succ]
      refine wpAnyH_take (i := 16) (oi := _) (v := ?_) (by simp only [List.getElem?_toArray, List.getElem?_cons_succ, List.getElem?_cons_zero]; exact rfl) (by kernel_rfl) (by kernel_rfl) (by kernel_rfl) (by exact fun _ _ _ h => h) (Or.inl ⟨?_, ?_⟩) (by assumption) ?_
      rotate_left 1
      · exact rfl
      · intro w hSw; (try dsimp only at hSw); go_simp; try with_reducible rfl
      try simp only [Act.put, List.setIfInBounds_toArray, List.set_cons_zero, List.set_cons_succ]
      refine wpAnyH_take (i := 17) (oi := _) (v := ?_) (by simp only [List.getElem?_toArray, List.getElem?_cons_succ, List.getElem?_cons_zero]; exact rfl) (by kernel_rfl) (by kernel_rfl) (by kernel_rfl) (by exact fun _ _ _ h => h) (Or.inl ⟨?_, ?_⟩) (by assumption) ?_
      rotate_left 1
      · exact rfl
      · intro w hSw; (try dsimp only at hSw); go_simp; try with_reducible rfl
      try simp only [Act.put, List.setIfInBounds_toArray, List.set_cons_zero, List.set_cons_succ]
      refine wpAnyH_take (i := 18) (oi := _) (v := ?_) (by simp only [List.getElem?_toArray, List.getElem?_cons_succ, List.getElem?_cons_zero]; exact rfl) (by kernel_rfl) (by kernel_rfl) (by kernel_rfl) (by exact fun _ _ _ h => h) (Or.inl ⟨?_, ?_⟩) (by assumption) ?_
      rotate_left 1
      · exact rfl
      · intro w hSw; (try dsimp only at hSw); go_simp; try with_reducible rfl
      try simp only [Act.put, List.setIfInBounds_toArray, List.set_cons_zero, List.set_cons_succ]
      refine wpAnyH_take (i := 19) (oi := _) (v := ?_) (by simp only [List.getElem?_toArray, List.getElem?_cons_succ, List.getElem?_cons_zero]; exact rfl) (by kernel_rfl) (by kernel_rfl) (by kernel_rfl) (by exact fun _ _ _ h => h) (Or.inl ⟨?_, ?_⟩) (by assumption) ?_
      rotate_left 1
      · exact rfl
      · intro w hSw; (try dsimp only at hSw); go_simp; try with_reducible rfl
      try simp only [Act.put, List.setIfInBounds_toArray, List.set_cons_zero, List.set_cons_succ]
      refine wpAnyH_take (i := 20) (oi := _) (v := ?_) (by simp only [List.getElem?_toArray, List.getElem?_cons_succ, List.getElem?_cons_zero]; exact rfl) (by kernel_rfl) (by kernel_rfl) (by kernel_rfl) (by exact fun _ _ _ h => h) (Or.inl ⟨?_, ?_⟩) (by assumption) ?_
      rotate_left 1
      · exact rfl
      · intro w hSw; (try dsimp only at hSw); go_simp; try with_reducible rfl
      try simp only [Act.put, List.setIfInBounds_toArray, List.set_cons_zero, List.set_cons_succ]
      refine wpAnyH_take (i := 21) (oi := _) (v := ?_) (by simp only [List.getElem?_toArray, List.getElem?_cons_succ, List.getElem?_cons_zero]; exact rfl) (by kernel_rfl) (by kernel_rfl) (by kernel_rfl) (by exact fun _ _ _ h => h) (Or.inl ⟨?_, ?_⟩) (by assumption) ?_
      rotate_left 1
      · exact rfl
      · intro w hSw; (try dsimp only at hSw); go_simp; try with_reducible rfl
      try simp only [Act.put, List.setIfInBounds_toArray, List.set_cons_zero, List.set_cons_succ]
      refine wpAnyH_take (i := 22) (oi := _) (v := ?_) (by simp only [List.getElem?_toArray, List.getElem?_cons_succ, List.getElem?_cons_zero]; exact rfl) (by kernel_rfl) (by kernel_rfl) (by kernel_rfl) (by exact fun _ _ _ h => h) (Or.inl ⟨?_, ?_⟩) (by assumption) ?_
      rotate_left 1
      · exact rfl
      · intro w hSw; (try dsimp only at hSw); go_simp; try with_reducible rfl
      try simp only [Act.put, List.setIfInBounds_toArray, List.set_cons_zero, List.set_cons_succ]
      refine wpAnyH_take (i := 23) (oi := _) (v := ?_) (by simp only [List.getElem?_toArray, List.getElem?_cons_succ, List.getElem?_cons_zero]; exact rfl) (by kernel_rfl) (by kernel_rfl) (by kernel_rfl) (by exact fun _ _ _ h => h) (Or.inl ⟨?_, ?_⟩) (by assumption) ?_
      rotate_left 1
      · exact rfl
      · intro w hSw; (try dsimp only at hSw); go_simp; try with_reducible rfl
      try simp only [Act.put, List.setIfInBounds_toArray, List.set_cons_zero, List.set_cons_succ]
      refine wpAnyH_take (i := 24) (oi := _) (v := ?_) (by simp only [List.getElem?_toArray, List.getElem?_cons_succ, List.getElem?_cons_zero]; exact rfl) (by kernel_rfl) (by kernel_rfl) (by kernel_rfl) (by exact fun _ _ _ h => h) (Or.inl ⟨?_, ?_⟩) (by assumption) ?_
      rotate_left 1
      · exact rfl
      · intro w hSw; (try dsimp only at hSw); go_simp; try with_reducible rfl
      try simp only [Act.put, List.setIfInBounds_toArray, List.set_cons_zero, List.set_cons_succ]
      refine wpAnyH_take (i := 25) (oi := _) (v := ?_) (by simp only [List.getElem?_toArray, List.getElem?_cons_succ, List.getElem?_cons_zero]; exact rfl) (by kernel_rfl) (by kernel_rfl) (by kernel_rfl) (by exact fun _ _ _ h => h) (Or.inl ⟨?_, ?_⟩) (by assumption) ?_
      rotate_left 1
      · exact rfl
      · intro w hSw; (try dsimp only at hSw); go_simp; try with_reducible rfl
      try simp only [Act.put, List.setIfInBounds_toArray, List.set_cons_zero, List.set_cons_succ]
      refine wpAnyH_take (i := 26) (oi := _) (v := ?_) (by simp only [List.getElem?_toArray, List.getElem?_cons_succ, List.getElem?_cons_zero]; exact rfl) (by kernel_rfl) (by kernel_rfl) (by kernel_rfl) (by exact fun _ _ _ h => h) (Or.inl ⟨?_, ?_⟩) (by assumption) ?_
      rotate_left 1
      · exact rfl
      · intro w hSw; (try dsimp only at hSw); go_simp; try with_reducible rfl
      try simp only [Act.put, List.setIfInBounds_toArray, List.set_cons_zero, List.set_cons_succ]
      refine wpAnyH_take (i := 27) (oi := _) (v := ?_) (by simp only [List.getElem?_toArray, List.getElem?_cons_succ, List.getElem?_cons_zero]; exact rfl) (by kernel_rfl) (by kernel_rfl) (by kernel_rfl) (by exact fun _ _ _ h => h) (Or.inl ⟨?_, ?_⟩) (by assumption) ?_
      rotate_left 1
      · exact rfl
      · intro w hSw; (try dsimp only at hSw); go_simp; try with_reducible rfl
      try simp only [Act.put, List.setIfInBounds_toArray, List.set_cons_zero, List.set_cons_succ]
      refine wpAnyH_take (i := 28) (oi := _) (v := ?_) (by simp only [List.getElem?_toArray, List.getElem?_cons_succ, List.getElem?_cons_zero]; exact rfl) (by kernel_rfl) (by kernel_rfl) (by kernel_rfl) (by exact fun _ _ _ h => h) (Or.inl ⟨?_, ?_⟩) (by assumption) ?_
      rotate_left 1
      · exact rfl
      · intro w hSw; (try dsimp only at hSw); go_simp; try with_reducible rfl
      try simp only [Act.put, List.setIfInBounds_toArray, List.set_cons_zero, List.set_cons_succ]
      refine wpAnyH_take (i := 29) (oi := _) (v := ?_) (by simp only [List.getElem?_toArray, List.getElem?_cons_succ, List.getElem?_cons_zero]; exact rfl) (by kernel_rfl) (by kernel_rfl) (by kernel_rfl) (by exact fun _ _ _ h => h) (Or.inl ⟨?_, ?_⟩) (by assumption) ?_
      rotate_left 1
      · exact rfl
      · intro w hSw; (try dsimp only at hSw); go_simp; try with_reducible rfl
      try simp only [Act.put, List.setIfInBounds_toArray, List.set_cons_zero, List.set_cons_succ]
      refine wpAnyH_take (i := 30) (oi := _) (v := ?_) (by simp only [List.getElem?_toArray, List.getElem?_cons_succ, List.getElem?_cons_zero]; exact rfl) (by kernel_rfl) (by kernel_rfl) (by kernel_rfl) (by exact fun _ _ _ h => h) (Or.inl ⟨?_, ?_⟩) (by assumption) ?_
      rotate_left 1
      · exact rfl
      · intro w hSw; (try dsimp only at hSw); go_simp; try with_reducible rfl
      try simp only [Act.put, List.setIfInBounds_toArray, List.set_cons_zero, List.set_cons_succ]
      refine wpAnyH_take (i := 31) (oi := _) (v := ?_) (by simp only [List.getElem?_toArray, List.getElem?_cons_succ, List.getElem?_cons_zero]; exact rfl) (by kernel_rfl) (by kernel_rfl) (by kernel_rfl) (by exact fun _ _ _ h => h) (Or.inl ⟨?_, ?_⟩) (by assumption) ?_
      rotate_left 1
      · exact rfl
      · intro w hSw; (try dsimp only at hSw); go_simp; try with_reducible rfl
      try simp only [Act.put, List.setIfInBounds_toArray, List.set_cons_zero, List.set_cons_succ]
      refine wpAnyH_take (i := 32) (oi := _) (v := ?_) (by simp only [List.getElem?_toArray, List.getElem?_cons_succ, List.getElem?_cons_zero]; exact rfl) (by kernel_rfl) (by kernel_rfl) (by kernel_rfl) (by exact fun _ _ _ h => h) (Or.inl ⟨?_, ?_⟩) (by assumption) ?_
      rotate_left 1
      · exact rfl
      · intro w hSw; (try dsimp only at hSw); go_simp; try with_reducible rfl
      try simp only [Act.put, List.setIfInBounds_toArray, List.set_cons_zero, List.set_cons_succ]
      refine wpAnyH_take (i := 33) (oi := _) (v := ?_) (by simp only [List.getElem?_toArray, List.getElem?_cons_succ, List.getElem?_cons_zero]; exact rfl) (by kernel_rfl) (by kernel_rfl) (by kernel_rfl) (by exact fun _ _ _ h => h) (Or.inl ⟨?_, ?_⟩) (by assumption) ?_
      rotate_left 1
      · exact rfl
      · intro w hSw; (try dsimp only at hSw); go_simp; try with_reducible rfl
      try simp only [Act.put, List.setIfInBounds_toArray, List.set_cons_zero, List.set_cons_succ]
      refine wpAnyH_take (i := 34) (oi := _) (v := ?_) (by simp only [List.getElem?_toArray, List.getElem?_cons_succ, List.getElem?_cons_zero]; exact rfl) (by kernel_rfl) (by kernel_rfl) (by kernel_rfl) (by exact fun _ _ _ h => h) (Or.inl ⟨?_, ?_⟩) (by assumption) ?_
      rotate_left 1
      · exact rfl
      · intro w hSw; (try dsimp only at hSw); go_simp; try with_reducible rfl
      try simp only [Act.put, List.setIfInBounds_toArray, List.set_cons_zero, List.set_cons_succ]
      refine wpAnyH_take (i := 36) (oi := _) (v := ?_) (by simp only [List.getElem?_toArray, List.getElem?_cons_succ, List.getElem?_cons_zero]; exact rfl) (by kernel_rfl) (by kernel_rfl) (by kernel_rfl) (by exact fun _ _ _ h => h) (Or.inl ⟨?_, ?_⟩) (by assumption) ?_
      rotate_left 1
      · exact rfl
      · intro w hSw; (try dsimp only at hSw); go_simp; try with_reducible rfl
      try simp only [Act.put, List.setIfInBounds_toArray, List.set_cons_zero, List.set_cons_succ]
      refine wpAnyH_ready (rs := [35]) (by kernel_rfl) (by simp) ?_
      refine AllReadyH.cons (o := _) (by simp only [List.getElem?_toArray, List.getElem?_cons_succ, List.getElem?_cons_zero]; exact rfl) (fun K hK => ?_) AllReadyH.nil
      go_simp
      first | ((go_at_call 8; (with_reducible refine (H5.out _).mono ?_); rintro e w' ⟨rfl, hb'⟩)) | ((go_at_call 9; (with_reducible refine (H6.out _).mono ?_); rintro e w' ⟨rfl, hb'⟩))
      try go_wp2_with fail
      refine hK.out _ _ ?_ (fun hHeld => ?_)
      · (try dsimp only); first | assumption | exact BxF.keep (by first | assumption | exact HF.out) (by first | assumption | exact below_drew1 (Below.refl _ _))
      clear hK K
      try simp only [Act.put, List.setIfInBounds_toArray, List.set_cons_zero, List.set_cons_succ]
      refine wpAnyH_ready (rs := [37]) (by kernel_rfl) (by simp) ?_
      refine AllReadyH.cons (o := _) (by simp only [List.getElem?_toArray, List.getElem?_cons_succ, List.getElem?_cons_zero]; exact rfl) (fun K hK => ?_) AllReadyH.nil
      go_simp
      first | ((go_at_call 8; (with_reducible refine (H5.out _).mono ?_); rintro e w' ⟨rfl, hb'⟩)) | ((go_at_call 9; (with_reducible refine (H6.out _).mono ?_); rintro e w' ⟨rfl, hb'⟩))
      try go_wp2_with fail
      refine hK.out _ _ ?_ (fun hHeld => ?_)
      · (try dsimp only); first | assumption | exact BxF.keep (by first | assumption | exact HF.out) (by first | assumption | exact below_drew1 (Below.refl _ _))
      clear hK K
      try simp only [Act.put, List.setIfInBounds_toArray, List.set_cons_zero, List.set_cons_succ]
      refine wpAnyH_take (i := 38) (oi := _) (v := ?_) (by simp only [List.getElem?_toArray, List.getElem?_cons_succ, List.getElem?_cons_zero]; exact rfl) (by kernel_rfl) (by kernel_rfl) (by kernel_rfl) (by exact fun _ _ _ h => h) (Or.inl ⟨?_, ?_⟩) (by assumption) ?_
      rotate_left 1
      · exact rfl
      · intro w hSw; (try dsimp only at hSw); go_simp; try with_reducible rfl
      try simp only [Act.put, List.setIfInBounds_toArray, List.set_cons_zero, List.set_cons_succ]
      refine wpAnyH_take (i := 39) (oi := _) (v := ?_) (by simp only [List.getElem?_toArray, List.getElem?_cons_succ, List.getElem?_cons_zero]; exact rfl) (by kernel_rfl) (by kernel_rfl) (by kernel_rfl) (by exact fun _ _ _ h => h) (Or.inl ⟨?_, ?_⟩) (by assumption) ?_
      rotate_left 1
      · exact rfl
      · intro w hSw; (try dsimp only at hSw); go_simp; try with_reducible rfl
      try simp only [Act.put, List.setIfInBounds_toArray, List.set_cons_zero, List.set_cons_succ]
      refine wpAnyH_take (i := 40) (oi := _) (v := ?_) (by simp only [List.getElem?_toArray, List.getElem?_cons_succ, List.getElem?_cons_zero]; exact rfl) (by kernel_rfl) (by kernel_rfl) (by kernel_rfl) (by exact fun _ _ _ h => h) (Or.inl ⟨?_, ?_⟩) (by assumption) ?_
      rotate_left 1
      · exact rfl
      · intro w hSw; (try dsimp only at hSw); go_simp; try with_reducible rfl
      try simp only [Act.put, List.setIfInBounds_toArray, List.set_cons_zero, List.set_cons_succ]
      refine wpAnyH_take (i := 41) (oi := _) (v := ?_) (by simp only [List.getElem?_toArray, List.getElem?_cons_succ, List.getElem?_cons_zero]; exact rfl) (by kernel_rfl) (by kernel_rfl) (by kernel_rfl) (by exact fun _ _ _ h => h) (Or.inl ⟨?_, ?_⟩) (by assumption) ?_
      rotate_left 1
      · exact rfl
      · intro w hSw; (try dsimp only at hSw); go_simp; try with_reducible rfl
      try simp only [Act.put, List.setIfInBounds_toArray, List.set_cons_zero, List.set_cons_succ]
      refine wpAnyH_take (i := 42) (oi := _) (v := ?_) (by simp only [List.getElem?_toArray, List.getElem?_cons_succ, List.getElem?_cons_zero]; exact rfl) (by kernel_rfl) (by kernel_rfl) (by kernel_rfl) (by exact fun _ _ _ h => h) (Or.inl ⟨?_, ?_⟩) (by assumption) ?_
      rotate_left 1
      · exact rfl
      · intro w hSw; (try dsimp only at hSw); go_simp; try with_reducible rfl
      try simp only [Act.put, List.setIfInBounds_toArray, List.set_cons_zero, List.set_cons_succ]
      refine wpAnyH_take (i := 43) (oi := _) (v := undef) (by simp only [List.getElem?_toArray, List.getElem?_cons_succ, List.getElem?_cons_zero]; exact rfl) (by kernel_rfl) (by kernel_rfl) (by kernel_rfl) (by exact fun _ _ _ h => h) (Or.inr ⟨?_, rfl⟩) (by assumption) ?_
      · exact rfl
      try simp only [Act.put, List.setIfInBounds_toArray, List.set_cons_zero, List.set_cons_succ]
      refine wpAnyH_take (i := 44) (oi := _) (v := undef) (by simp only [List.getElem?_toArray, List.getElem?_cons_succ, List.getElem?_cons_zero]; exact rfl) (by kernel_rfl) (by kernel_rfl) (by kernel_rfl) (by exact fun _ _ _ h => h) (Or.inr ⟨?_, rfl⟩) (by assumption) ?_
      · exact rfl
      try simp only [Act.put, List.setIfInBounds_toArray, List.set_cons_zero, List.set_cons_succ]
      refine wpAnyH_take (i := 45) (oi := _) (v := undef) (by simp only [List.getElem?_toArray, List.getElem?_cons_succ, List.getElem?_cons_zero]; exact rfl) (by kernel_rfl) (by kernel_rfl) (by kernel_rfl) (by exact fun _ _ _ h => h) (Or.inr ⟨?_, rfl⟩) (by assumption) ?_
      · exact rfl
      try simp only [Act.put, List.setIfInBounds_toArray, List.set_cons_zero, List.set_cons_succ]
      refine wpAnyH_take (i := 46) (oi := _) (v := ?_) (by simp only [List.getElem?_toArray, List.getElem?_cons_succ, List.getElem?_cons_zero]; exact rfl) (by kernel_rfl) (by kernel_rfl) (by kernel_rfl) (by exact fun _ _ _ h => h) (Or.inl ⟨?_, ?_⟩) (by assumption) ?_
      rotate_left 1
      · exact rfl
      · intro w hSw; (try dsimp only at hSw); go_simp; try with_reducible rfl
      try simp only [Act.put, List.setIfInBounds_toArray, List.set_cons_zero, List.set_cons_succ]
      refine wpAnyH_take (i := 47) (oi := _) (v := ?_) (by simp only [List.getElem?_toArray, List.getElem?_cons_succ, List.getElem?_cons_zero]; exact rfl) (by kernel_rfl) (by kernel_rfl) (by kernel_rfl) (by exact fun _ _ _ h => h) (Or.inl ⟨?_, ?_⟩) (by assumption) ?_
      rotate_left 1
      · exact rfl
      · intro w hSw; (try dsimp only at hSw); go_simp; try with_reducible rfl
      try simp only [Act.put, List.setIfInBounds_toArray, List.set_cons_zero, List.set_cons_succ]
      refine wpAnyH_done (by kernel_rfl) ?_ _
      have hH := hHeld
      go_wp2_with fail
      go_meet
      exact ⟨rfl, hH.1⟩
    · have b1t := (F1.out rfl).1
      subst b1t
      refine wp_region_held_drew (S := (fun w' => BxF w0 p s p' s' q z p3 s3 p4 s4 w' ∧ w'.cell? ⟨w0.heap.size, 0, none⟩ = some (.int .i64 p) ∧ w'.cell? ⟨w0.heap.size, 1, none⟩ = some (.int .i64 s))) (by kernel_rfl) ?_ (fun hHeld => ?_)
      · (try dsimp only); first | assumption | exact BxF.keep (by first | assumption | exact HF.out) (by first | assumption | exact below_drew1 (Below.refl _ _))
      refine wpAnyH_take (i := 0) (oi := _) (v := ?_) (by simp only [List.getElem?_toArray, List.getElem?_cons_succ, List.getElem?_cons_zero]; exact rfl) (by kernel_rfl) (by kernel_rfl) (by kernel_rfl) (by exact fun _ _ _ h => h) (Or.inl ⟨?_, ?_⟩) (by assumption) ?_
      rotate_left 1
      · exact rfl
      · intro w hSw; (try dsimp only at hSw); go_simp; try with_reducible rfl
      try simp only [Act.put, List.setIfInBounds_toArray, List.set_cons_zero, List.set_cons_succ]
      refine wpAnyH_take (i := 1) (oi := _) (v := ?_) (by simp only [List.getElem?_toArray, List.getElem?_cons_succ, List.getElem?_cons_zero]; exact rfl) (by kernel_rfl) (by kernel_rfl) (by kernel_rfl) (by exact fun _ _ _ h => h) (Or.inl ⟨?_, ?_⟩) (by assumption) ?_
      rotate_left 1
      · exact rfl
      · intro w hSw; (try dsimp only at hSw); go_simp; try with_reducible rfl
      try simp only [Act.put, List.setIfInBounds_toArray, List.set_cons_zero, List.set_cons_succ]
      refine wpAnyH_take (i := 2) (oi := _) (v := ?_) (by simp only [List.getElem?_toArray, List.getElem?_cons_succ, List.getElem?_cons_zero]; exact rfl) (by kernel_rfl) (by kernel_rfl) (by kernel_rfl) (by exact fun _ _ _ h => h) (Or.inl ⟨?_, ?_⟩) (by assumption) ?_
      rotate_left 1
      · exact rfl
      · intro w hSw; (try dsimp only at hSw); go_simp; try with_reducible rfl
      try simp only [Act.put, List.setIfInBounds_toArray, List.set_cons_zero, List.set_cons_succ]
      refine wpAnyH_take (i := 3) (oi := _) (v := ?_) (by simp only [List.getElem?_toArray, List.getElem?_cons_succ, List.getElem?_cons_zero]; exact rfl) (by kernel_rfl) (by kernel_rfl) (by kernel_rfl) (by exact fun _ _ _ h => h) (Or.inl ⟨?_, ?_⟩) (by assumption) ?_
      rotate_left 1
      · exact rfl
      · intro w hSw; (try dsimp only at hSw); go_simp; try with_reducible rfl
      try simp only [Act.put, List.setIfInBounds_toArray, List.set_cons_zero, List.set_cons_succ]
      refine wpAnyH_take (i := 4) (oi := _) (v := ?_) (by simp only [List.getElem?_toArray, List.getElem?_cons_succ, List.getElem?_cons_zero]; exact rfl) (by kernel_rfl) (by kernel_rfl) (by kernel_rfl) (by exact fun _ _ _ h => h) (Or.inl ⟨?_, ?_⟩) (by assumption) ?_
      rotate_left 1
      · exact rfl
      · intro w hSw; (try dsimp only at hSw); go_simp; try with_reducible rfl
      try simp only [Act.put, List.setIfInBounds_toArray, List.set_cons_zero, List.set_cons_succ]
      refine wpAnyH_take (i := 5) (oi := _) (v := ?_) (by simp only [List.getElem?_toArray, List.getElem?_cons_succ, List.getElem?_cons_zero]; exact rfl) (by kernel_rfl) (by kernel_rfl) (by kernel_rfl) (by exact fun _ _ _ h => h) (Or.inl ⟨?_, ?_⟩) (by assumption) ?_
      rotate_left 1
      · exact rfl
      · intro w hSw; (try dsimp only at hSw); go_simp; try with_reducible rfl
      try simp only [Act.put, List.setIfInBounds_toArray, List.set_cons_zero, List.set_cons_succ]
      refine wpAnyH_take (i := 6) (oi := _) (v := ?_) (by simp only [List.getElem?_toArray, List.getElem?_cons_succ, List.getElem?_cons_zero]; exact rfl) (by kernel_rfl) (by kernel_rfl) (by kernel_rfl) (by exact fun _ _ _ h => h) (Or.inl ⟨?_, ?_⟩) (by assumption) ?_
      rotate_left 1
      · exact rfl
      · intro w hSw; (try dsimp only at hSw); go_simp; try with_reducible rfl
      try simp only [Act.put, List.setIfInBounds_toArray, List.set_cons_zero, List.set_cons_succ]
      refine wpAnyH_take (i := 7) (oi := _) (v := ?_) (by simp only [List.getElem?_toArray, List.getElem?_cons_succ, List.getElem?_cons_zero]; exact rfl) (by kernel_rfl) (by kernel_rfl) (by kernel_rfl) (by exact fun _ _ _ h => h) (Or.inl ⟨?_, ?_⟩) (by assumption) ?_
      rotate_left 1
      · exact rfl
      · intro w hSw; (try dsimp only at hSw); go_simp; try with_reducible rfl
      try simp only [Act.put, List.setIfInBounds_toArray, List.set_cons_zero, List.set_cons_succ]
      refine wpAnyH_take (i := 8) (oi := _) (v := ?_) (by simp only [List.getElem?_toArray, List.getElem?_cons_succ, List.getElem?_cons_zero]; exact rfl) (by kernel_rfl) (by kernel_rfl) (by kernel_rfl) (by exact fun _ _ _ h => h) (Or.inl ⟨?_, ?_⟩) (by assumption) ?_
      rotate_left 1
      · exact rfl
      · intro w hSw; (try dsimp only at hSw); go_simp; try with_reducible rfl
      try simp only [Act.put, List.setIfInBounds_toArray, List.set_cons_zero, List.set_cons_succ]
      refine wpAnyH_take (i := 9) (oi := _) (v := ?_) (by simp only [List.getElem?_toArray, List.getElem?_cons_succ, List.getElem?_cons_zero]; exact rfl) (by kernel_rfl) (by kernel_rfl) (by kernel_rfl) (by exact fun _ _ _ h => h) (Or.inl ⟨?_, ?_⟩) (by assumption) ?_
      rotate_left 1
      · exact rfl
      · intro w hSw; (try dsimp only at hSw); go_simp; try with_reducible rfl
      try simp only [Act.put, List.setIfInBounds_toArray, List.set_cons_zero, List.set_cons_succ]
      refine wpAnyH_take (i := 10) (oi := _) (v := ?_) (by simp only [List.getElem?_toArray, List.getElem?_cons_succ, List.getElem?_cons_zero]; exact rfl) (by kernel_rfl) (by kernel_rfl) (by kernel_rfl) (by exact fun _ _ _ h => h) (Or.inl ⟨?_, ?_⟩) (by assumption) ?_
      rotate_left 1
      · exact rfl
      · intro w hSw; (try dsimp only at hSw); go_simp; try with_reducible rfl
      try simp only [Act.put, List.setIfInBounds_toArray, List.set_cons_zero, List.set_cons_succ]
      refine wpAnyH_take (i := 11) (oi := _) (v := ?_) (by simp only [List.getElem?_toArray, List.getElem?_cons_succ, List.getElem?_cons_zero]; exact rfl) (by kernel_rfl) (by kernel_rfl) (by kernel_rfl) (by exact fun _ _ _ h => h) (Or.inl ⟨?_, ?_⟩) (by assumption) ?_
      rotate_left 1
      · exact rfl
      · intro w hSw; (try dsimp only at hSw); go_simp; try with_reducible rfl
      try simp only [Act.put, List.setIfInBounds_toArray, List.set_cons_zero, List.set_cons_succ]
      refine wpAnyH_take (i := 12) (oi := _) (v := ?_) (by simp only [List.getElem?_toArray, List.getElem?_cons_succ, List.getElem?_cons_zero]; exact rfl) (by kernel_rfl) (by kernel_rfl) (by kernel_rfl) (by exact fun _ _ _ h => h) (Or.inl ⟨?_, ?_⟩) (by assumption) ?_
      rotate_left 1
      · exact rfl
      · intro w hSw; (try dsimp only at hSw); go_simp; try with_reducible rfl
      try simp only [Act.put, List.setIfInBounds_toArray, List.set_cons_zero, List.set_cons_succ]
      refine wpAnyH_take (i := 13) (oi := _) (v := ?_) (by simp only [List.getElem?_toArray, List.getElem?_cons_succ, List.getElem?_cons_zero]; exact rfl) (by kernel_rfl) (by kernel_rfl) (by kernel_rfl) (by exact fun _ _ _ h => h) (Or.inl ⟨?_, ?_⟩) (by assumption) ?_
      rotate_left 1
      · exact rfl
      · intro w hSw; (try dsimp only at hSw); go_simp; try with_reducible rfl
      try simp only [Act.put, List.setIfInBounds_toArray, List.set_cons_zero, List.set_cons_succ]
      refine wpAnyH_take (i := 14) (oi := _) (v := ?_) (by simp only [List.getElem?_toArray, List.getElem?_cons_succ, List.getElem?_cons_zero]; exact rfl) (by kernel_rfl) (by kernel_rfl) (by kernel_rfl) (by exact fun _ _ _ h => h) (Or.inl ⟨?_, ?_⟩) (by assumption) ?_
      rotate_left 1
      · exact rfl
      · intro w hSw; (try dsimp only at hSw); go_simp; try with_reducible rfl
      try simp only [Act.put, List.setIfInBounds_toArray, List.set_cons_zero, List.set_cons_succ]
      refine wpAnyH_take (i := 15) (oi := _) (v := ?_) (by simp only [List.getElem?_toArray, List.getElem?_cons_succ, List.getElem?_cons_zero]; exact rfl) (by kernel_rfl) (by kernel_rfl) (by kernel_rfl) (by exact fun _ _ _ h => h) (Or.inl ⟨?_, ?_⟩) (by assumption) ?_
      rotate_left 1
      · exact rfl
      · intro w hSw; (try dsimp only at hSw); go_simp; try with_reducible rfl
      try simp only [Act.put, List.setIfInBounds_toArray, List.set_cons_zero, List.set_cons_succ]
      refine wpAnyH_take (i := 16) (oi := _) (v := ?_) (by simp only [List.getElem?_toArray, List.getElem?_cons_succ, List.getElem?_cons_zero]; exact rfl) (by kernel_rfl) (by kernel_rfl) (by kernel_rfl) (by exact fun _ _ _ h => h) (Or.inl ⟨?_, ?_⟩) (by assumption) ?_
      rotate_left 1
      · exact rfl
      · intro w hSw; (try dsimp only at hSw); go_simp; try with_reducible rfl
      try simp only [Act.put, List.setIfInBounds_toArray, List.set_cons_zero, List.set_cons_succ]
      refine wpAnyH_take (i := 17) (oi := _) (v := ?_) (by simp only [List.getElem?_toArray, List.getElem?_cons_succ, List.getElem?_cons_zero]; exact rfl) (by kernel_rfl) (by kernel_rfl) (by kernel_rfl) (by exact fun _ _ _ h => h) (Or.inl ⟨?_, ?_⟩) (by assumption) ?_
      rotate_left 1
      · exact rfl
      · intro w hSw; (try dsimp only at hSw); go_simp; try with_reducible rfl
      try simp only [Act.put, List.setIfInBounds_toArray, List.set_cons_zero, List.set_cons_succ]
      refine wpAnyH_take (i := 18) (oi := _) (v := ?_) (by simp only [List.getElem?_toArray, List.getElem?_cons_succ, List.getElem?_cons_zero]; exact rfl) (by kernel_rfl) (by kernel_rfl) (by kernel_rfl) (by exact fun _ _ _ h => h) (Or.inl ⟨?_, ?_⟩) (by assumption) ?_
      rotate_left 1
      · exact rfl
      · intro w hSw; (try dsimp only at hSw); go_simp; try with_reducible rfl
      try simp only [Act.put, List.setIfInBounds_toArray, List.set_cons_zero, List.set_cons_succ]
      refine wpAnyH_take (i := 19) (oi := _) (v := ?_) (by simp only [List.getElem?_toArray, List.getElem?_cons_succ, List.getElem?_cons_zero]; exact rfl) (by kernel_rfl) (by kernel_rfl) (by kernel_rfl) (by exact fun _ _ _ h => h) (Or.inl ⟨?_, ?_⟩) (by assumption) ?_
      rotate_left 1
      · exact rfl
      · intro w hSw; (try dsimp only at hSw); go_simp; try with_reducible rfl
      try simp only [Act.put, List.setIfInBounds_toArray, List.set_cons_zero, List.set_cons_succ]
      refine wpAnyH_take (i := 20) (oi := _) (v := ?_) (by simp only [List.getElem?_toArray, List.getElem?_cons_succ, List.getElem?_cons_zero]; exact rfl) (by kernel_rfl) (by kernel_rfl) (by kernel_rfl) (by exact fun _ _ _ h => h) (Or.inl ⟨?_, ?_⟩) (by assumption) ?_
      rotate_left 1
      · exact rfl
      · intro w hSw; (try dsimp only at hSw); go_simp; try with_reducible rfl
      try simp only [Act.put, List.setIfInBounds_toArray, List.set_cons_zero, List.set_cons_succ]
      refine wpAnyH_take (i := 21) (oi := _) (v := ?_) (by simp only [List.getElem?_toArray, List.getElem?_cons_succ, List.getElem?_cons_zero]; exact rfl) (by kernel_rfl) (by kernel_rfl) (by kernel_rfl) (by exact fun _ _ _ h => h) (Or.inl ⟨?_, ?_⟩) (by assumption) ?_
      rotate_left 1
      · exact rfl
      · intro w hSw; (try dsimp only at hSw); go_simp; try with_reducible rfl
      try simp only [Act.put, List.setIfInBounds_toArray, List.set_cons_zero, List.set_cons_succ]
      refine wpAnyH_take (i := 22) (oi := _) (v := ?_) (by simp only [List.getElem?_toArray, List.getElem?_cons_succ, List.getElem?_cons_zero]; exact rfl) (by kernel_rfl) (by kernel_rfl) (by kernel_rfl) (by exact fun _ _ _ h => h) (Or.inl ⟨?_, ?_⟩) (by assumption) ?_
      rotate_left 1
      · exact rfl
      · intro w hSw; (try dsimp only at hSw); go_simp; try with_reducible rfl
      try simp only [Act.put, List.setIfInBounds_toArray, List.set_cons_zero, List.set_cons_succ]
      refine wpAnyH_take (i := 23) (oi := _) (v := ?_) (by simp only [List.getElem?_toArray, List.getElem?_cons_succ, List.getElem?_cons_zero]; exact rfl) (by kernel_rfl) (by kernel_rfl) (by kernel_rfl) (by exact fun _ _ _ h => h) (Or.inl ⟨?_, ?_⟩) (by assumption) ?_
      rotate_left 1
      · exact rfl
      · intro w hSw; (try dsimp only at hSw); go_simp; try with_reducible rfl
      try simp only [Act.put, List.setIfInBounds_toArray, List.set_cons_zero, List.set_cons_succ]
      refine wpAnyH_take (i := 24) (oi := _) (v := ?_) (by simp only [List.getElem?_toArray, List.getElem?_cons_succ, List.getElem?_cons_zero]; exact rfl) (by kernel_rfl) (by kernel_rfl) (by kernel_rfl) (by exact fun _ _ _ h => h) (Or.inl ⟨?_, ?_⟩) (by assumption) ?_
      rotate_left 1
      · exact rfl
      · intro w hSw; (try dsimp only at hSw); go_simp; try with_reducible rfl
      try simp only [Act.put, List.setIfInBounds_toArray, List.set_cons_zero, List.set_cons_succ]
      refine wpAnyH_take (i := 25) (oi := _) (v := ?_) (by simp only [List.getElem?_toArray, List.getElem?_cons_succ, List.getElem?_cons_zero]; exact rfl) (by kernel_rfl) (by kernel_rfl) (by kernel_rfl) (by exact fun _ _ _ h => h) (Or.inl ⟨?_, ?_⟩) (by assumption) ?_
      rotate_left 1
      · exact rfl
      · intro w hSw; (try dsimp only at hSw); go_simp; try with_reducible rfl
      try simp only [Act.put, List.setIfInBounds_toArray, List.set_cons_zero, List.set_cons_succ]
      refine wpAnyH_take (i := 26) (oi := _) (v := ?_) (by simp only [List.getElem?_toArray, List.getElem?_cons_succ, List.getElem?_cons_zero]; exact rfl) (by kernel_rfl) (by kernel_rfl) (by kernel_rfl) (by exact fun _ _ _ h => h) (Or.inl ⟨?_, ?_⟩) (by assumption) ?_
      rotate_left 1
      · exact rfl
      · intro w hSw; (try dsimp only at hSw); go_simp; try with_reducible rfl
      try simp only [Act.put, List.setIfInBounds_toArray, List.set_cons_zero, List.set_cons_succ]
      refine wpAnyH_take (i := 27) (oi := _) (v := ?_) (by simp only [List.getElem?_toArray, List.getElem?_cons_succ, List.getElem?_cons_zero]; exact rfl) (by kernel_rfl) (by kernel_rfl) (by kernel_rfl) (by exact fun _ _ _ h => h) (Or.inl ⟨?_, ?_⟩) (by assumption) ?_
      rotate_left 1
      · exact rfl
      · intro w hSw; (try dsimp only at hSw); go_simp; try with_reducible rfl
      try simp only [Act.put, List.setIfInBounds_toArray, List.set_cons_zero, List.set_cons_succ]
      refine wpAnyH_take (i := 28) (oi := _) (v := ?_) (by simp only [List.getElem?_toArray, List.getElem?_cons_succ, List.getElem?_cons_zero]; exact rfl) (by kernel_rfl) (by kernel_rfl) (by kernel_rfl) (by exact fun _ _ _ h => h) (Or.inl ⟨?_, ?_⟩) (by assumption) ?_
      rotate_left 1
      · exact rfl
      · intro w hSw; (try dsimp only at hSw); go_simp; try with_reducible rfl
      try simp only [Act.put, List.setIfInBounds_toArray, List.set_cons_zero, List.set_cons_succ]
      refine wpAnyH_take (i := 29) (oi := _) (v := ?_) (by simp only [List.getElem?_toArray, List.getElem?_cons_succ, List.getElem?_cons_zero]; exact rfl) (by kernel_rfl) (by kernel_rfl) (by kernel_rfl) (by exact fun _ _ _ h => h) (Or.inl ⟨?_, ?_⟩) (by assumption) ?_
      rotate_left 1
      · exact rfl
      · intro w hSw; (try dsimp only at hSw); go_simp; try with_reducible rfl
      try simp only [Act.put, List.setIfInBounds_toArray, List.set_cons_zero, List.set_cons_succ]
      refine wpAnyH_take (i := 30) (oi := _) (v := ?_) (by simp only [List.getElem?_toArray, List.getElem?_cons_succ, List.getElem?_cons_zero]; exact rfl) (by kernel_rfl) (by kernel_rfl) (by kernel_rfl) (by exact fun _ _ _ h => h) (Or.inl ⟨?_, ?_⟩) (by assumption) ?_
      rotate_left 1
      · exact rfl
      · intro w hSw; (try dsimp only at hSw); go_simp; try with_reducible rfl
      try simp only [Act.put, List.setIfInBounds_toArray, List.set_cons_zero, List.set_cons_succ]
      refine wpAnyH_take (i := 31) (oi := _) (v := ?_) (by simp only [List.getElem?_toArray, List.getElem?_cons_succ, List.getElem?_cons_zero]; exact rfl) (by kernel_rfl) (by kernel_rfl) (by kernel_rfl) (by exact fun _ _ _ h => h) (Or.inl ⟨?_, ?_⟩) (by assumption) ?_
      rotate_left 1
      · exact rfl
      · intro w hSw; (try dsimp only at hSw); go_simp; try with_reducible rfl
      try simp only [Act.put, List.setIfInBounds_toArray, List.set_cons_zero, List.set_cons_succ]
      refine wpAnyH_take (i := 32) (oi := _) (v := ?_) (by simp only [List.getElem?_toArray, List.getElem?_cons_succ, List.getElem?_cons_zero]; exact rfl) (by kernel_rfl) (by kernel_rfl) (by kernel_rfl) (by exact fun _ _ _ h => h) (Or.inl ⟨?_, ?_⟩) (by assumption) ?_
      rotate_left 1
      · exact rfl
      · intro w hSw; (try dsimp only at hSw); go_simp; try with_reducible rfl
      try simp only [Act.put, List.setIfInBounds_toArray, List.set_cons_zero, List.set_cons_succ]
      refine wpAnyH_take (i := 33) (oi := _) (v := ?_) (by simp only [List.getElem?_toArray, List.getElem?_cons_succ, List.getElem?_cons_zero]; exact rfl) (by kernel_rfl) (by kernel_rfl) (by kernel_rfl) (by exact fun _ _ _ h => h) (Or.inl ⟨?_, ?_⟩) (by assumption) ?_
      rotate_left 1
      · exact rfl
      · intro w hSw; (try dsimp only at hSw); go_simp; try with_reducible rfl
      try simp only [Act.put, List.setIfInBounds_toArray, List.set_cons_zero, List.set_cons_succ]
      refine wpAnyH_take (i := 34) (oi := _) (v := ?_) (by simp only [List.getElem?_toArray, List.getElem?_cons_succ, List.getElem?_cons_zero]; exact rfl) (by kernel_rfl) (by kernel_rfl) (by kernel_rfl) (by exact fun _ _ _ h => h) (Or.inl ⟨?_, ?_⟩) (by assumption) ?_
      rotate_left 1
      · exact rfl
      · intro w hSw; (try dsimp only at hSw); go_simp; try with_reducible rfl
      try simp only [Act.put, List.setIfInBounds_toArray, List.set_cons_zero, List.set_cons_succ]
      refine wpAnyH_take (i := 36) (oi := _) (v := ?_) (by simp only [List.getElem?_toArray, List.getElem?_cons_succ, List.getElem?_cons_zero]; exact rfl) (by kernel_rfl) (by kernel_rfl) (by kernel_rfl) (by exact fun _ _ _ h => h) (Or.inl ⟨?_, ?_⟩) (by assumption) ?_
      rotate_left 1
      · exact rfl
      · intro w hSw; (try dsimp only at hSw); go_simp; try with_reducible rfl
      try simp only [Act.put, List.setIfInBounds_toArray, List.set_cons_zero, List.set_cons_succ]
      refine wpAnyH_ready (rs := [35]) (by kernel_rfl) (by simp) ?_
      refine AllReadyH.cons (o := _) (by simp only [List.getElem?_toArray, List.getElem?_cons_succ, List.getElem?_cons_zero]; exact rfl) (fun K hK => ?_) AllReadyH.nil
      go_simp
      first | ((go_at_call 8; (with_reducible refine (H5.out _).mono ?_); rintro e w' ⟨rfl, hb'⟩)) | ((go_at_call 9; (with_reducible refine (H6.out _).mono ?_); rintro e w' ⟨rfl, hb'⟩))
      try go_wp2_with fail
      refine hK.out _ _ ?_ (fun hHeld => ?_)
      · (try dsimp only); first | assumption | exact BxF.keep (by first | assumption | exact HF.out) (by first | assumption | exact below_drew1 (Below.refl _ _))
      clear hK K
      try simp only [Act.put, List.setIfInBounds_toArray, List.set_cons_zero, List.set_cons_succ]
      refine wpAnyH_ready (rs := [37]) (by kernel_rfl) (by simp) ?_
      refine AllReadyH.cons (o := _) (by simp only [List.getElem?_toArray, List.getElem?_cons_succ, List.getElem?_cons_zero]; exact rfl) (fun K hK => ?_) AllReadyH.nil
      go_simp
      first | ((go_at_call 8; (with_reducible refine (H5.out _).mono ?_); rintro e w' ⟨rfl, hb'⟩)) | ((go_at_call 9; (with_reducible refine (H6.out _).mono ?_); rintro e w' ⟨rfl, hb'⟩))
      try go_wp2_with fail
      refine hK.out _ _ ?_ (fun hHeld => ?_)
      · (try dsimp only); first | assumption | exact BxF.keep (by first | assumption | exact HF.out) (by first | assumption | exact below_drew1 (Below.refl _ _))
      clear hK K
      try simp only [Act.put, List.setIfInBounds_toArray, List.set_cons_zero, List.set_cons_succ]
      refine wpAnyH_take (i := 38) (oi := _) (v := ?_) (by simp only [List.getElem?_toArray, List.getElem?_cons_succ, List.getElem?_cons_zero]; exact rfl) (by kernel_rfl) (by kernel_rfl) (by kernel_rfl) (by exact fun _ _ _ h => h) (Or.inl ⟨?_, ?_⟩) (by assumption) ?_
      rotate_left 1
      · exact rfl
      · intro w hSw; (try dsimp only at hSw); go_simp; try with_reducible rfl
      try simp only [Act.put, List.setIfInBounds_toArray, List.set_cons_zero, List.set_cons_succ]
      refine wpAnyH_take (i := 39) (oi := _) (v := ?_) (by simp only [List.getElem?_toArray, List.getElem?_cons_succ, List.getElem?_cons_zero]; exact rfl) (by kernel_rfl) (by kernel_rfl) (by kernel_rfl) (by exact fun _ _ _ h => h) (Or.inl ⟨?_, ?_⟩) (by assumption) ?_
      rotate_left 1
      · exact rfl
      · intro w hSw; (try dsimp only at hSw); go_simp; try with_reducible rfl
      try simp only [Act.put, List.setIfInBounds_toArray, List.set_cons_zero, List.set_cons_succ]
      refine wpAnyH_take (i := 40) (oi := _) (v := ?_) (by simp only [List.getElem?_toArray, List.getElem?_cons_succ, List.getElem?_cons_zero]; exact rfl) (by kernel_rfl) (by kernel_rfl) (by kernel_rfl) (by exact fun _ _ _ h => h) (Or.inl ⟨?_, ?_⟩) (by assumption) ?_
      rotate_left 1
      · exact rfl
      · intro w hSw; (try dsimp only at hSw); go_simp; try with_reducible rfl
      try simp only [Act.put, List.setIfInBounds_toArray, List.set_cons_zero, List.set_cons_succ]
      refine wpAnyH_take (i := 41) (oi := _) (v := ?_) (by simp only [List.getElem?_toArray, List.getElem?_cons_succ, List.getElem?_cons_zero]; exact rfl) (by kernel_rfl) (by kernel_rfl) (by kernel_rfl) (by exact fun _ _ _ h => h) (Or.inl ⟨?_, ?_⟩) (by assumption) ?_
      rotate_left 1
      · exact rfl
      · intro w hSw; (try dsimp only at hSw); go_simp; try with_reducible rfl
      try simp only [Act.put, List.setIfInBounds_toArray, List.set_cons_zero, List.set_cons_succ]
      refine wpAnyH_take (i := 42) (oi := _) (v := ?_) (by simp only [List.getElem?_toArray, List.getElem?_cons_succ, List.getElem?_cons_zero]; exact rfl) (by kernel_rfl) (by kernel_rfl) (by kernel_rfl) (by exact fun _ _ _ h => h) (Or.inl ⟨?_, ?_⟩) (by assumption) ?_
      rotate_left 1
      · exact rfl
      · intro w hSw; (try dsimp only at hSw); go_simp; try with_reducible rfl
      try simp only [Act.put, List.setIfInBounds_toArray, List.set_cons_zero, List.set_cons_succ]
      refine wpAnyH_take (i := 43) (oi := _) (v := ?_) (by simp only [List.getElem?_toArray, List.getElem?_cons_succ, List.getElem?_cons_zero]; exact rfl) (by kernel_rfl) (by kernel_rfl) (by kernel_rfl) (by exact fun _ _ _ h => h) (Or.inl ⟨?_, ?_⟩) (by assumption) ?_
      rotate_left 1
      · exact rfl
      · intro w hSw; (try dsimp only at hSw); go_simp; try with_reducible rfl
      try simp only [Act.put, List.setIfInBounds_toArray, List.set_cons_zero, List.set_cons_succ]
      refine wpAnyH_ready (rs := [44]) (by kernel_rfl) (by simp) ?_
      refine AllReadyH.cons (o := _) (by simp only [List.getElem?_toArray, List.getElem?_cons_succ, List.getElem?_cons_zero]; exact rfl) (fun K hK => ?_) AllReadyH.nil
      go_simp
      first | ((go_at_call 8; (with_reducible refine (H5.out _).mono ?_); rintro e w' ⟨rfl, hb'⟩)) | ((go_at_call 9; (with_reducible refine (H6.out _).mono ?_); rintro e w' ⟨rfl, hb'⟩))
      try go_wp2_with fail
      refine hK.out _ _ ?_ (fun hHeld => ?_)
      · (try dsimp only); first | assumption | exact BxF.keep (by first | assumption | exact HF.out) (by first | assumption | exact below_drew1 (Below.refl _ _))
      clear hK K
      try simp only [Act.put, List.setIfInBounds_toArray, List.set_cons_zero, List.set_cons_succ]
      refine wpAnyH_take (i := 45) (oi := _) (v := ?_) (by simp only [List.getElem?_toArray, List.getElem?_cons_succ, List.getElem?_cons_zero]; exact rfl) (by kernel_rfl) (by kernel_rfl) (by kernel_rfl) (by exact fun _ _ _ h => h) (Or.inl ⟨?_, ?_⟩) (by assumption) ?_
      rotate_left 1
      · exact rfl
      · intro w hSw; (try dsimp only at hSw); go_simp; try with_reducible rfl
      try simp only [Act.put, List.setIfInBounds_toArray, List.set_cons_zero, List.set_cons_succ]
      refine wpAnyH_take (i := 46) (oi := _) (v := ?_) (by simp only [List.getElem?_toArray, List.getElem?_cons_succ, List.getElem?_cons_zero]; exact rfl) (by kernel_rfl) (by kernel_rfl) (by kernel_rfl) (by exact fun _ _ _ h => h) (Or.inl ⟨?_, ?_⟩) (by assumption) ?_
      rotate_left 1
      · exact rfl
      · intro w hSw; (try dsimp only at hSw); go_simp; try with_reducible rfl
      try simp only [Act.put, List.setIfInBounds_toArray, List.set_cons_zero, List.set_cons_succ]
      refine wpAnyH_take (i := 47) (oi := _) (v := ?_) (by simp only [List.getElem?_toArray, List.getElem?_cons_succ, List.getElem?_cons_zero]; exact rfl) (by kernel_rfl) (by kernel_rfl) (by kernel_rfl) (by exact fun _ _ _ h => h) (Or.inl ⟨?_, ?_⟩) (by assumption) ?_
      rotate_left 1
      · exact rfl
      · intro w hSw; (try dsimp only at hSw); go_simp; try with_reducible rfl
      try simp only [Act.put, List.setIfInBounds_toArray, List.set_cons_zero, List.set_cons_succ]
      refine wpAnyH_done (by kernel_rfl) ?_ _
      have hH := hHeld
      go_wp2_with fail
      go_meet
      exact ⟨rfl, hH.1⟩
  case rest =>
  as_aux_lemma =>
  obtain ⟨rfl, hcut⟩ := hcut
  clear HB
  have HB := Aside0.mk hcut
  obtain ⟨c0, c1, c2, c3, c4, c5, c6, c7, c8, c9⟩ := hcut.2
  clear hcut
  go_upto_if 166 with fail
  go_cut [] from 166 to 166 (fun wc => Bx w0 p s p' s' q z p3 s3 p4 s4 wc)
  case first =>
    as_aux_lemma =>
    cases ok
    · cases b1
      · go_wp2_with (first
          | (go_at_call 8; (with_reducible refine (H5.out _).mono ?_); rintro e w1 ⟨rfl, hb1⟩; replace HB := Aside0.mk (HB.out.step hb1); (try clear c0 c1 c2 c3 c4 c5 c6 c7 c8 c9); obtain ⟨c0, c1, c2, c3, c4, c5, c6, c7, c8, c9⟩ := HB.out.2; clear hb1))
        go_meet
        exact HB.out
      · cases b2
        · go_wp2_with (first
            | (go_at_call 8; (with_reducible refine (H5.out _).mono ?_); rintro e w1 ⟨rfl, hb1⟩; replace HB := Aside0.mk (HB.out.step hb1); (try clear c0 c1 c2 c3 c4 c5 c6 c7 c8 c9); obtain ⟨c0, c1, c2, c3, c4, c5, c6, c7, c8, c9⟩ := HB.out.2; clear hb1)
            | (go_at_call 8; (with_reducible refine (H7.out _).mono ?_); rintro e w1 ⟨rfl, hb1⟩; replace HB := Aside0.mk (HB.out.step hb1); (try clear c0 c1 c2 c3 c4 c5 c6 c7 c8 c9); obtain ⟨c0, c1, c2, c3, c4, c5, c6, c7, c8, c9⟩ := HB.out.2; clear hb1))
          go_meet
          exact HB.out
        · obtain ⟨q1, q2⟩ := F2.out rfl rfl rfl
          have e1 : (p == p') = false := beq_eq_false_iff_ne.mpr q1
          have e2 : decide (wrap64 (wrap64 (p' - p) * wrap64 (s - s')) > 0) = false := decide_eq_false (by omega)
          have e3 : decide (0 < wrap64 (wrap64 (p' - p) * wrap64 (s - s'))) = false := decide_eq_false (by omega)
          clear q1 q2
          go_wp2_with (first
            | (go_at_call 8; (with_reducible refine (H5.out _).mono ?_); rintro e w1 ⟨rfl, hb1⟩; replace HB := Aside0.mk (HB.out.step hb1); (try clear c0 c1 c2 c3 c4 c5 c6 c7 c8 c9); obtain ⟨c0, c1, c2, c3, c4, c5, c6, c7, c8, c9⟩ := HB.out.2; clear hb1)
            | (go_at_call 8; (with_reducible refine (H7.out _).mono ?_); rintro e w1 ⟨rfl, hb1⟩; replace HB := Aside0.mk (HB.out.step hb1); (try clear c0 c1 c2 c3 c4 c5 c6 c7 c8 c9); obtain ⟨c0, c1, c2, c3, c4, c5, c6, c7, c8, c9⟩ := HB.out.2; clear hb1))
          go_meet
          exact HB.out
    · obtain ⟨_, q1, q2, q3, a1, a2, a3⟩ := F1.out rfl
      have G1 := Aside0.mk a1
      have G2 := Aside0.mk a2
      have G3 := Aside0.mk a3
      have e1 : decide (num < 0) = false := decide_eq_false (by omega)
      clear a1 a2 a3 q3
      go_wp2_with (first
        | (go_at_call 4; (with_reducible refine (G1.out _).mono ?_); rintro e w1 ⟨rfl, hb1⟩; replace HB := Aside0.mk (HB.out.step hb1); (try clear c0 c1 c2 c3 c4 c5 c6 c7 c8 c9); obtain ⟨c0, c1, c2, c3, c4, c5, c6, c7, c8, c9⟩ := HB.out.2; clear hb1)
        | (go_at_call 10; (with_reducible refine (G2.out _).mono ?_); rintro e w1 ⟨rfl, hb1⟩; replace HB := Aside0.mk (HB.out.step hb1); (try clear c0 c1 c2 c3 c4 c5 c6 c7 c8 c9); obtain ⟨c0, c1, c2, c3, c4, c5, c6, c7, c8, c9⟩ := HB.out.2; clear hb1)
        | (go_at_call 10; (with_reducible refine (G3.out _).mono ?_); rintro e w1 ⟨rfl, hb1⟩; replace HB := Aside0.mk (HB.out.step hb1); (try clear c0 c1 c2 c3 c4 c5 c6 c7 c8 c9); obtain ⟨c0, c1, c2, c3, c4, c5, c6, c7, c8, c9⟩ := HB.out.2; clear hb1))
      go_meet
      exact HB.out
  case rest =>
  as_aux_lemma =>
  clear HB
  have HB := Aside0.mk hcut
  obtain ⟨c0, c1, c2, c3, c4, c5, c6, c7, c8, c9⟩ := hcut.2
  clear hcut F1 F2 H1 H2 H3 H4 H5 H6 H7
  go_upto_if 428 with (first
      | (go_at_call 11; (with_reducible refine (impl_AllMeetings.own _ _ l rs three _ (Kd.C_below HL.out HB.out.1) HLC.out HAM.out).mono ?_); rintro e w1 ⟨v7, rfl, hRR⟩; obtain ⟨gs, hRS⟩ := hRR.RS; obtain ⟨A7, n7, e7⟩ := Kd.R_slice hRS.R; subst e7; have R7 := Aside0.mk hRS; have hb1 := hRR.choose_spec.1; clear hRS hRR; replace HB := Aside0.mk (HB.out.step hb1); (try clear c0 c1 c2 c3 c4 c5 c6 c7 c8 c9); obtain ⟨c0, c1, c2, c3, c4, c5, c6, c7, c8, c9⟩ := HB.out.2; clear hb1)
      | (go_at_call 12; (with_reducible refine (spec_AllMeetings.calls K _ _ l rs three _ (Kd.C_below HL.out HB.out.1) HLC.out HSAM.out).mono ?_); rintro e w1 ⟨v8, rfl, hN, hb1⟩; obtain ⟨A8, n8, e8⟩ := Kd.N_slice hN; subst e8; have N7 := Aside0.mk hN; clear hN; replace R7 := Aside0.mk (R7.out.below hb1);  replace HB := Aside0.mk (HB.out.step hb1); (try clear c0 c1 c2 c3 c4 c5 c6 c7 c8 c9); obtain ⟨c0, c1, c2, c3, c4, c5, c6, c7, c8, c9⟩ := HB.out.2; clear hb1)
      | (go_at_call 13; (with_reducible refine (HCM.out _ _ _ (Kd.C_below HL.out HB.out.1) HLC.out).mono ?_); rintro e w1 ⟨rfl, hb1⟩; replace R7 := Aside0.mk (R7.out.below hb1);  replace N7 := Aside0.mk (Kd.N_below N7.out hb1); replace HB := Aside0.mk (HB.out.step hb1); (try clear c0 c1 c2 c3 c4 c5 c6 c7 c8 c9); obtain ⟨c0, c1, c2, c3, c4, c5, c6, c7, c8, c9⟩ := HB.out.2; clear hb1)
      | (go_at_call 14; (with_reducible refine (HSCM.out _ _ _ (Kd.C_below HL.out HB.out.1) HLC.out).mono ?_); rintro e w1 ⟨rfl, hb1⟩; replace R7 := Aside0.mk (R7.out.below hb1);  replace N7 := Aside0.mk (Kd.N_below N7.out hb1); replace HB := Aside0.mk (HB.out.step hb1); (try clear c0 c1 c2 c3 c4 c5 c6 c7 c8 c9); obtain ⟨c0, c1, c2, c3, c4, c5, c6, c7, c8, c9⟩ := HB.out.2; clear hb1)
      | (go_at_call 15; (with_reducible refine (HWT.out _ _ _ (HT.out.step HB.out.1).one (Kd.C_below HL.out HB.out.1) HLC.out).mono ?_); rintro e w1 ⟨rfl, hb1⟩; replace R7 := Aside0.mk (R7.out.below hb1);  replace N7 := Aside0.mk (Kd.N_below N7.out hb1);  replace HB := Aside0.mk (HB.out.step hb1); (try clear c0 c1 c2 c3 c4 c5 c6 c7 c8 c9); obtain ⟨c0, c1, c2, c3, c4, c5, c6, c7, c8, c9⟩ := HB.out.2; clear hb1)
      | (go_at_call 16; (with_reducible refine (HSWT.out _ _ _ (Kd.C_below HL.out HB.out.1) HLC.out).mono ?_); rintro e w1 ⟨rfl, hb1⟩; replace R7 := Aside0.mk (R7.out.below hb1);  replace N7 := Aside0.mk (Kd.N_below N7.out hb1); replace HB := Aside0.mk (HB.out.step hb1); (try clear c0 c1 c2 c3 c4 c5 c6 c7 c8 c9); obtain ⟨c0, c1, c2, c3, c4, c5, c6, c7, c8, c9⟩ := HB.out.2; clear hb1)
      | (go_at_call 17; (with_reducible refine (HWP.out _).mono ?_); rintro e w1 ⟨rfl, hb1⟩; replace R7 := Aside0.mk (R7.out.below hb1);  replace N7 := Aside0.mk (Kd.N_below N7.out hb1); replace HB := Aside0.mk (HB.out.step hb1); (try clear c0 c1 c2 c3 c4 c5 c6 c7 c8 c9); obtain ⟨c0, c1, c2, c3, c4, c5, c6, c7, c8, c9⟩ := HB.out.2; clear hb1)
      | (go_at_call 18; (with_reducible refine (HSWP.out _).mono ?_); rintro e w1 ⟨rfl, hb1⟩; replace R7 := Aside0.mk (R7.out.below hb1);  replace N7 := Aside0.mk (Kd.N_below N7.out hb1); replace HB := Aside0.mk (HB.out.step hb1); (try clear c0 c1 c2 c3 c4 c5 c6 c7 c8 c9); obtain ⟨c0, c1, c2, c3, c4, c5, c6, c7, c8, c9⟩ := HB.out.2; clear hb1)
      | (go_at_call 19; (with_reducible refine (HGA.out _).mono ?_); rintro e w1 ⟨rfl, hb1⟩; replace R7 := Aside0.mk (R7.out.below hb1);  replace N7 := Aside0.mk (Kd.N_below N7.out hb1); replace HB := Aside0.mk (HB.out.step hb1); (try clear c0 c1 c2 c3 c4 c5 c6 c7 c8 c9); obtain ⟨c0, c1, c2, c3, c4, c5, c6, c7, c8, c9⟩ := HB.out.2; clear hb1)
      | (go_at_call 20; (with_reducible refine (HSGA.out _).mono ?_); rintro e w1 ⟨rfl, hb1⟩; replace R7 := Aside0.mk (R7.out.below hb1);  replace N7 := Aside0.mk (Kd.N_below N7.out hb1); replace HB := Aside0.mk (HB.out.step hb1); (try clear c0 c1 c2 c3 c4 c5 c6 c7 c8 c9); obtain ⟨c0, c1, c2, c3, c4, c5, c6, c7, c8, c9⟩ := HB.out.2; clear hb1)
      | (go_at_call 21; (with_reducible refine (HPW.out _ (HT.out.step HB.out.1)).mono ?_); rintro e w1 ⟨v9, rfl, hP, hb1⟩; obtain ⟨A9, n9, e9⟩ := Kd.R_slice hP; subst e9; have P7 := Aside0.mk hP; clear hP; replace R7 := Aside0.mk (R7.out.below hb1);  replace N7 := Aside0.mk (Kd.N_below N7.out hb1);  replace HB := Aside0.mk (HB.out.step hb1); (try clear c0 c1 c2 c3 c4 c5 c6 c7 c8 c9); obtain ⟨c0, c1, c2, c3, c4, c5, c6, c7, c8, c9⟩ := HB.out.2; clear hb1)
      | (go_at_call 22; (with_reducible refine (spec_ParseWalkers.calls K word lp thirteen _ HSPW.out).mono ?_); rintro e w1 ⟨vv, rfl, hP, hb1⟩; obtain ⟨Aq, cq, eq⟩ := Kd.R_slice hP; subst eq; have Q7 := Aside0.mk hP; clear hP; replace R7 := Aside0.mk (R7.out.below hb1);  replace N7 := Aside0.mk (Kd.N_below N7.out hb1);  replace P7 := Aside0.mk (Kd.R_below P7.out hb1);  replace HB := Aside0.mk (HB.out.step hb1); (try clear c0 c1 c2 c3 c4 c5 c6 c7 c8 c9); obtain ⟨c0, c1, c2, c3, c4, c5, c6, c7, c8, c9⟩ := HB.out.2; clear hb1)
      | (go_at_call 23; (with_reducible refine (laws_yRows.calls K _ _ rs _ _ rs true _ (Kd.R_reads' R7.out.R).2.2 (Kd.R_reads' R7.out.R).2.1 (Kd.N_reads' N7.out).2.2 (Kd.N_reads' N7.out).2.1 HYR.out).mono ?_); rintro e w1 ⟨rfl, hd⟩; have hb1 := (by first | exact hd.below | exact hd : Below _ _ w1); clear hd; replace R7 := Aside0.mk (R7.out.below hb1);  replace P7 := Aside0.mk (Kd.R_below P7.out hb1);  replace Q7 := Aside0.mk (Kd.R_below Q7.out hb1);  clear N7; replace HB := Aside0.mk (HB.out.step hb1); (try clear c0 c1 c2 c3 c4 c5 c6 c7 c8 c9); obtain ⟨c0, c1, c2, c3, c4, c5, c6, c7, c8, c9⟩ := HB.out.2; clear hb1)
      | (go_at_call 24; (with_reducible refine (laws_yWalkers.calls K _ _ lp _ _ lp true _ (Kd.R_reads' P7.out).2.2 (Kd.R_reads' P7.out).2.1 (Kd.R_reads' Q7.out).2.2 (Kd.R_reads' Q7.out).2.1 HYW.out).mono ?_); rintro e w1 ⟨rfl, hd⟩; have hb1 := (by first | exact hd.below | exact hd : Below _ _ w1); clear hd; replace R7 := Aside0.mk (R7.out.below hb1);  replace P7 := Aside0.mk (Kd.R_below P7.out hb1);  clear Q7; replace HB := Aside0.mk (HB.out.step hb1); (try clear c0 c1 c2 c3 c4 c5 c6 c7 c8 c9); obtain ⟨c0, c1, c2, c3, c4, c5, c6, c7, c8, c9⟩ := HB.out.2; clear hb1)
      | (go_at_call 25; (with_reducible refine (HAW.out _ _ _ (Kd.C_below HL.out HB.out.1) HLC.out).mono ?_); rintro e w1 ⟨rfl, hb1⟩; replace R7 := Aside0.mk (R7.out.below hb1);  replace P7 := Aside0.mk (Kd.R_below P7.out hb1); replace HB := Aside0.mk (HB.out.step hb1); (try clear c0 c1 c2 c3 c4 c5 c6 c7 c8 c9); obtain ⟨c0, c1, c2, c3, c4, c5, c6, c7, c8, c9⟩ := HB.out.2; clear hb1)
      | (go_at_call 26; (with_reducible refine (HSAW.out _ _ _ (Kd.C_below HL.out HB.out.1) HLC.out).mono ?_); rintro e wB ⟨rfl, hb1⟩; replace R7 := Aside0.mk (R7.out.below hb1);  replace P7 := Aside0.mk (Kd.R_below P7.out hb1);  replace HB := Aside0.mk (HB.out.step hb1); (try clear c0 c1 c2 c3 c4 c5 c6 c7 c8 c9); obtain ⟨c0, c1, c2, c3, c4, c5, c6, c7, c8, c9⟩ := HB.out.2; clear hb1))
  go_cut [] from 428 to 428 (fun wc => Bx w0 p s p' s' q z p3 s3 p4 s4 wc ∧ Below wB.heap.size wB wc)
  case first =>
    as_aux_lemma =>
    cases three
    · go_wp2_with fail
      go_meet
      exact ⟨HB.out, Below.refl _ _⟩
    · obtain ⟨hrl, e1, hrow, hpt, hyw⟩ := F3.out rfl
      subst e1
      have HROW := Aside0.mk hrow
      have HPT := Aside0.mk hpt
      have HYL := Aside0.mk hyw
      clear hrow hpt hyw F3 F9 F11 F13 P7
      go_wp2_with fail
      go_loopg [435] rs.length (fun gg vi wr => ∃ i : Int, vi = .int .i64 i ∧ 0 ≤ i ∧ i ≤ rs.length ∧ (rs.length - i).toNat ≤ gg ∧ Aside0 (Bx w0 p s p' s' q z p3 s3 p4 s4 wr) ∧ Aside0 (Below wB.heap.size wB wr))
      case atStart => exact ⟨0, by go_num, by omega, by omega, by omega, HB, ⟨Below.refl _ _⟩⟩
      case round =>
        clear HB
        obtain ⟨i, rfl, hi0, hin, hgg, HB, HBB⟩ := hrel
        by_cases hlt : i < (rs.length : Int)
        · as_aux_lemma =>
          obtain ⟨a, b, c, d, hr4, ha0, hab, hbl, hMT, hprev⟩ := HROW.out i.toNat (by omega)
          obtain ⟨ra, rb, rc, rd⟩ := hr4
          obtain ⟨ad, g, eA, hc⟩ := R7.out.row i.toNat (by omega)
          subst eA
          rw [ra, rb, rc, rd] at hc
          have HMT := Aside0.mk hMT
          have HPV := Aside0.mk hprev
          clear hprev
          obtain ⟨adl, eL, hla⟩ := wAt w0 QA l HL.out a.toNat (by omega)
          subst eL
          obtain ⟨adl2, eL, hlb⟩ := wAt w0 (some adl) l HL.out b.toNat (by omega)
          cases eL
          generalize (l.getD a.toNat z23).f0 = x0 at *
          generalize (l.getD a.toNat z23).f1 = x1 at *
          generalize (l.getD b.toNat z23).f0 = y0 at *
          generalize (l.getD b.toNat z23).f1 = y1 at *
          clear hMT ra rb rc rd HROW HPT HYL
          have HS := Aside0.mk (show RowS wr g a b (adl.add (a.toNat * 2)) (adl.add (b.toNat * 2)) x0 x1 y0 y1 wr from ⟨Below.refl _ _, (hc _ HBB.out).2.1, (hc _ HBB.out).2.2.1, (hla _ HB.out.1).1, (hla _ HB.out.1).2, (hlb _ HB.out.1).1, (hlb _ HB.out.1).2⟩)
          obtain ⟨k4, k0, k1, k2, k3⟩ := hc _ HBB.out
          have al : a < (l.length : Int) := by omega
          have b0 : (0 : Int) ≤ b := by omega
          have wadd : wrap64 (i + 1) = i + 1 := by unfold wrap64; omega
          have wadd' : IntKind.i64.wrap (i + 1) = i + 1 := by rw [IntKind.wrap_i64]; omega
          have t1 : decide (a ≥ b) = false := decide_eq_false (by omega)
          have t2 : decide (b ≤ a) = false := decide_eq_false (by omega)
          have t3 : decide (a < 0) = false := decide_eq_false (by omega)
          have t4 : decide (b ≥ (l.length : Int)) = false := decide_eq_false (by omega)
          have t5 : decide ((l.length : Int) ≤ b) = false := decide_eq_false (by omega)
          go_wp2_with fail
          go_quiet (fail)
          go_wp2_with fail
          go_region_held3 (fun w' => Below wr.heap.size wr w' ∧ w'.cell? ⟨g, 0, none⟩ = some (.int .i64 a) ∧ w'.cell? ⟨g, 1, none⟩ = some (.int .i64 b) ∧ w'.cell? (adl.add (a.toNat * 2)) = some (.int .i64 x0) ∧ w'.cell? ⟨(adl.add (a.toNat * 2)).block, (adl.add (a.toNat * 2)).off + 1, none⟩ = some (.int .i64 x1) ∧ w'.cell? (adl.add (b.toNat * 2)) = some (.int .i64 y0) ∧ w'.cell? ⟨(adl.add (b.toNat * 2)).block, (adl.add (b.toNat * 2)).off + 1, none⟩ = some (.int .i64 y1))
            (first | assumption | exact RowS.keep (by first | assumption | exact HS.out) (by first | assumption | exact below_drew1 (pw_below_drewN (Below.refl _ _) _) | exact below_drew1 (Below.refl _ _)))
            (first | ((go_at_call 4; (with_reducible refine (HMT.out _).mono ?_); rintro e w' ⟨rfl, hb'⟩)))
          rename_i hH
          have HB2 := Aside0.mk (HB.out.step hH.1)
          have HBB2 := Aside0.mk (HBB.out.trans (hH.1.mono HBB.out.size))
          clear HB HBB
          obtain ⟨k4, k0, k1, k2, k3⟩ := hc _ HBB2.out
          go_upto_if 500 with fail
          by_cases h0 : 0 < i
          · have d0 : decide (i > 0) = true := decide_eq_true (by omega)
            have d1 : decide (0 < i) = true := decide_eq_true (by omega)
            obtain ⟨a', b', c', d', hr4, ho1, ho2⟩ := HPV.out (by omega)
            obtain ⟨ra, rb, rc, rd⟩ := hr4
            obtain ⟨ad', g', eA, hc'⟩ := R7.out.row (i.toNat - 1) (by omega)
            cases eA
            rw [ra, rb, rc, rd] at hc'
            have p0 : 0 ≤ i - 1 := by omega
            have p1 : i - 1 < (rs.length : Int) := by omega
            have wsub : wrap64 (i - 1) = i - 1 := by unfold wrap64; omega
            have wsub' : IntKind.i64.wrap (i - 1) = i - 1 := by rw [IntKind.wrap_i64]; omega
            obtain ⟨m5, m0, m1, m2, m3⟩ := hc' _ HBB2.out
            have m4 := m5
            rw [show i.toNat - 1 = (i - 1).toNat by omega] at m4
            clear ra rb rc rd HPV hc'
            have q1 : decide (wrap64 (c' * d) > wrap64 (c * d')) = false := decide_eq_false (by omega)
            have q2 : decide (wrap64 (c * d') < wrap64 (c' * d)) = false := decide_eq_false (by omega)
            have HO := Aside0.mk ho2
            clear ho1 ho2
            go_wp2_with fail
            go_quiet (fail)
            go_wp2_with fail
            have HB3 := Aside0.mk (HB2.out)
            by_cases he : wrap64 (c' * d) = wrap64 (c * d')
            · obtain ⟨ho2, ho3⟩ := HO.out he
              have e1 : (wrap64 (c' * d) == wrap64 (c * d')) = true := beq_iff_eq.mpr he
              have u1 : decide (a' > a) = false := decide_eq_false (by omega)
              have u2 : decide (a < a') = false := decide_eq_false (by omega)
              clear he ho2
              by_cases ha : a' = a
              · have ho4 := ho3 ha
                have e2 : (a' == a) = true := beq_iff_eq.mpr ha
                have u3 : decide (b' ≥ b) = false := decide_eq_false (by omega)
                have u4 : decide (b ≤ b') = false := decide_eq_false (by omega)
                clear ha ho3 ho4
                as_aux_lemma =>
                go_quiet (fail)
                go_wp2_with fail
                go_roundg (rs.length - (i + 1)).toNat
                case measure => omega
                case rel => exact ⟨i + 1, by go_num, by omega, by omega, by omega, by first | exact HB2 | exact ⟨HB2.out.step (pw_below_drewN (Below.refl _ _) _)⟩, by first | exact HBB2 | exact ⟨pw_below_drewN HBB2.out _⟩⟩
              · have e2 : (a' == a) = false := beq_eq_false_iff_ne.mpr ha
                clear ha ho3
                as_aux_lemma =>
                go_quiet (fail)
                go_wp2_with fail
                go_roundg (rs.length - (i + 1)).toNat
                case measure => omega
                case rel => exact ⟨i + 1, by go_num, by omega, by omega, by omega, by first | exact HB2 | exact ⟨HB2.out.step (pw_below_drewN (Below.refl _ _) _)⟩, by first | exact HBB2 | exact ⟨pw_below_drewN HBB2.out _⟩⟩
            · have e1 : (wrap64 (c' * d) == wrap64 (c * d')) = false := beq_eq_false_iff_ne.mpr he
              clear he
              as_aux_lemma =>
              go_quiet (fail)
              go_wp2_with fail
              go_roundg (rs.length - (i + 1)).toNat
              case measure => omega
              case rel => exact ⟨i + 1, by go_num, by omega, by omega, by omega, by first | exact HB2 | exact ⟨HB2.out.step (pw_below_drewN (Below.refl _ _) _)⟩, by first | exact HBB2 | exact ⟨pw_below_drewN HBB2.out _⟩⟩
          · have d0 : decide (i > 0) = false := decide_eq_false (by omega)
            have d1 : decide (0 < i) = false := decide_eq_false (by omega)
            go_wp2_with fail
            go_roundg (rs.length - (i + 1)).toNat
            case measure => omega
            case rel => exact ⟨i + 1, by go_num, by omega, by omega, by omega, HB2, HBB2⟩
        · have e : i = (rs.length : Int) := by omega
          subst e
          as_aux_lemma =>
          obtain ⟨c0, c1, c2, c3, c4, c5, c6, c7, c8, c9⟩ := HB.out.2
          go_wp2_with (first
            | (go_at_call 21; (with_reducible refine (HPT.out _ (HT.out.step HB.out.1)).mono ?_); rintro e w1 ⟨v9, rfl, hP, hb1⟩; obtain ⟨A9, n9, e9⟩ := Kd.R_slice hP; subst e9; have P7 := Aside0.mk hP; clear hP; have HBB := Aside0.mk (HBB.out.trans (hb1.mono HBB.out.size)); replace HB := Aside0.mk (HB.out.step hb1); (try clear c0 c1 c2 c3 c4 c5 c6 c7 c8 c9); obtain ⟨c0, c1, c2, c3, c4, c5, c6, c7, c8, c9⟩ := HB.out.2; clear hb1)
            | (go_at_call 24; (with_reducible refine (laws_yWalkers.calls K _ _ l _ _ l true _ (Kd.R_reads' P7.out).2.2 (Kd.R_reads' P7.out).2.1 (Kd.C_below HL.out HB.out.1) HLC.out HYL.out).mono ?_); rintro e w1 ⟨rfl, hd⟩; have hb1 := (by first | exact hd.below | exact hd : Below _ _ w1); clear hd; have HBB := Aside0.mk (HBB.out.trans (hb1.mono HBB.out.size)); replace HB := Aside0.mk (HB.out.step hb1); (try clear c0 c1 c2 c3 c4 c5 c6 c7 c8 c9); obtain ⟨c0, c1, c2, c3, c4, c5, c6, c7, c8, c9⟩ := HB.out.2; clear hb1))
          go_meet
          exact ⟨HB.out, HBB.out⟩
  case rest =>
  as_aux_lemma =>
  obtain ⟨hcut, hcb⟩ := hcut
  have P7 := Aside0.mk (Kd.R_below P7.out hcb)
  clear HB F3 hcb
  have HB := Aside0.mk hcut
  obtain ⟨c0, c1, c2, c3, c4, c5, c6, c7, c8, c9⟩ := hcut.2
  obtain ⟨wC, hwC⟩ : ∃ wC, wC = wc := ⟨_, rfl⟩
  rw [← hwC] at P7
  have HCB := Aside0.mk (show Below wC.heap.size wC wc by rw [hwC]; exact Below.refl _ _)
  clear hcut hwC
  go_upto_region 50 with fail
  go_cut [592] from 569 to 592 (fun v592 wd => v592 = .bool false ∧ Bx w0 p s p' s' q z p3 s3 p4 s4 wd ∧ Below wC.heap.size wC wd)
  case first =>
    as_aux_lemma =>
    cases nine
    · go_wp2_with fail
      go_meet
      exact ⟨rfl, HB.out, HCB.out⟩
    · obtain ⟨a1, q1⟩ := F9.out rfl
      have G1 := Aside0.mk a1
      clear a1
      go_wp2_with (go_at_call 10; (with_reducible refine (G1.out _).mono ?_); rintro e w1 ⟨rfl, hb1⟩; have HCB := Aside0.mk (HCB.out.trans (hb1.mono HCB.out.size)); replace HB := Aside0.mk (HB.out.step hb1); (try clear c0 c1 c2 c3 c4 c5 c6 c7 c8 c9); obtain ⟨c0, c1, c2, c3, c4, c5, c6, c7, c8, c9⟩ := HB.out.2; clear hb1)
      go_meet
      exact ⟨rfl, HB.out, HCB.out⟩
  case rest =>
  as_aux_lemma =>
  obtain ⟨rfl, hcut, hcb⟩ := hcut
  clear HB HCB F9
  have HB := Aside0.mk hcut
  have HCB := Aside0.mk hcb
  obtain ⟨c0, c1, c2, c3, c4, c5, c6, c7, c8, c9⟩ := hcut.2
  clear hcut hcb
  go_upto_if 593 with fail
  go_cut [] from 593 to 593 (fun wd => Bx w0 p s p' s' q z p3 s3 p4 s4 wd ∧ Below wC.heap.size wC wd)
  case first =>
    as_aux_lemma =>
    cases eleven
    · go_wp2_with fail
      go_meet
      exact ⟨HB.out, HCB.out⟩
    · obtain ⟨a1, g0, a2, sz, hsz, q1, q2⟩ := F11.out rfl
      have G1 := Aside0.mk a1
      have G2 := Aside0.mk a2
      have e1 : decide (gap < 0) = false := decide_eq_false (by omega)
      clear a1 a2 g0
      by_cases hz : sz < 0
      · have q1 := q1 hz
        have e2 : decide (sz < 0) = true := decide_eq_true hz
        rw [← hsz] at q1 e2
        clear q2 hz hsz
        go_wp2_with (first
          | (go_at_call 19; (with_reducible refine (G2.out _).mono ?_); rintro e w1 ⟨rfl, hb1⟩; have HCB := Aside0.mk (HCB.out.trans (hb1.mono HCB.out.size)); replace HB := Aside0.mk (HB.out.step hb1); (try clear c0 c1 c2 c3 c4 c5 c6 c7 c8 c9); obtain ⟨c0, c1, c2, c3, c4, c5, c6, c7, c8, c9⟩ := HB.out.2; clear hb1)
          | (go_at_call 10; (with_reducible refine (G1.out _).mono ?_); rintro e w1 ⟨rfl, hb1⟩; have HCB := Aside0.mk (HCB.out.trans (hb1.mono HCB.out.size)); replace HB := Aside0.mk (HB.out.step hb1); (try clear c0 c1 c2 c3 c4 c5 c6 c7 c8 c9); obtain ⟨c0, c1, c2, c3, c4, c5, c6, c7, c8, c9⟩ := HB.out.2; clear hb1))
        go_meet
        exact ⟨HB.out, HCB.out⟩
      · have q2 := q2 hz
        have e2 : decide (sz < 0) = false := decide_eq_false hz
        rw [← hsz] at q2 e2
        clear q1 hz hsz
        go_wp2_with (first
          | (go_at_call 19; (with_reducible refine (G2.out _).mono ?_); rintro e w1 ⟨rfl, hb1⟩; have HCB := Aside0.mk (HCB.out.trans (hb1.mono HCB.out.size)); replace HB := Aside0.mk (HB.out.step hb1); (try clear c0 c1 c2 c3 c4 c5 c6 c7 c8 c9); obtain ⟨c0, c1, c2, c3, c4, c5, c6, c7, c8, c9⟩ := HB.out.2; clear hb1)
          | (go_at_call 10; (with_reducible refine (G1.out _).mono ?_); rintro e w1 ⟨rfl, hb1⟩; have HCB := Aside0.mk (HCB.out.trans (hb1.mono HCB.out.size)); replace HB := Aside0.mk (HB.out.step hb1); (try clear c0 c1 c2 c3 c4 c5 c6 c7 c8 c9); obtain ⟨c0, c1, c2, c3, c4, c5, c6, c7, c8, c9⟩ := HB.out.2; clear hb1))
        go_meet
        exact ⟨HB.out, HCB.out⟩
  case rest =>
  as_aux_lemma =>
  obtain ⟨hcut, hcb⟩ := hcut
  clear HB HCB F11
  have HB := Aside0.mk hcut
  have P7 := Aside0.mk (Kd.R_below P7.out hcb)
  obtain ⟨c0, c1, c2, c3, c4, c5, c6, c7, c8, c9⟩ := hcut.2
  clear hcut hcb
  cases thirteen
  · go_wp2_with fail
    go_ret
    exact ⟨rfl, HB.out.1⟩
  · have G1 := Aside0.mk (F13.out rfl)
    go_wp2_with (go_at_call 15; (with_reducible refine (G1.out _ _ _ (HT.out.step HB.out.1).one (Kd.R_reads' P7.out).2.2 (Kd.R_reads' P7.out).2.1).mono ?_); rintro e w1 ⟨rfl, hb1⟩; replace HB := Aside0.mk (HB.out.step hb1); (try clear c0 c1 c2 c3 c4 c5 c6 c7 c8 c9); obtain ⟨c0, c1, c2, c3, c4, c5, c6, c7, c8, c9⟩ := HB.out.2; clear hb1)
    go_ret
    exact ⟨rfl, HB.out.1⟩
end Go.Proofs.YtbcebecnogllcaaGreatDoor.OFnWalkersMeetOfAll
