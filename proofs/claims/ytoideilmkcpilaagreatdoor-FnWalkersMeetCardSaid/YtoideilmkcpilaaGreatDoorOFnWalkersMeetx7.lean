/- The law FnWalkersMeet: contracts of functions, written by a program (after the kit's print). -/
import Derived.Test.YtoideilmkcpilaaGreatDoorOFnWalkersMeetx0
import Derived.Test.YtoideilmkcpilaaGreatDoorOFnWalkersMeetx4
import Derived.Test.YtoideilmkcpilaaGreatDoorOFnWalkersMeetx5
import Derived.Test.YtoideilmkcpilaaGreatDoorOFnWalkersMeetx6
namespace Go.Proofs.YtoideilmkcpilaaGreatDoor.OFnWalkersMeet
open Go.RowKit Go.Proofs.YtoideilmkcpilaaGreatDoorW.PrintWords Go.Proofs.YtoideilmkcpilaaGreatDoorW.PrintLast Go.Proofs.YtoideilmkcpilaaGreatDoorW.PrintMore
attribute [local go_sem] max2_int min2_int max_two min_two max_three min_three max_four min_four   -- for this text's walks alone
set_option linter.unusedVariables false
set_option linter.unusedSimpArgs false
open List (setIfInBounds_toArray set_cons_zero set_cons_succ)

/-! ### impl_CountMeetings: function 16 -/
def impl_CountMeetings.f (l0 : List (S25)) : Option (Int × Bool) := (impl_AreWalkers.f l0).bind fun t312 => (if t312 = true then ((impl_allMeetings.f l0).bind fun t313 => (some ((t313.length : Int), true))) else (some (0, false)))
set_option maxHeartbeats 8000000 in
set_option maxRecDepth 100000 in
theorem impl_CountMeetings.calls (A0 : Option Addr) (c0 : Nat) (l0 : List (S25)) (r1 : Int) (r2 : Bool) (w : World) (hr0 : Kd.C k25 w A0 l0.length l0) (hc0 : l0.length ≤ c0) (h : impl_CountMeetings.f l0 = some (r1, r2)) :
  Calls Tryz.prog 16 #[.slice A0 l0.length c0] w fun e w' => e = .returned (.tuple #[.int .i64 r1, .bool r2]) ∧ Below w.heap.size w w' := by
 have HR0 := jb.mk hr0; have HC0 := jb.mk hc0; clear hr0 hc0; have HB := jb.mk (Below.refl w.heap.size w); have H : ((impl_AreWalkers.f l0).bind fun t312 => (if t312 = true then ((impl_allMeetings.f l0).bind fun t313 => (some ((t313.length : Int), true))) else (some (0, false)))) = some (r1, r2) := h; clear h; replace H := Option.bind_eq_some_iff.mp H; obtain ⟨t312, A20, H⟩ := H
 try dsimp only at H
 have A2 := jb.mk A20; clear A20
 by_cases c3 : t312 = true
 ·subst c3; rw [if_pos rfl] at H; replace H := Option.bind_eq_some_iff.mp H; obtain ⟨t313, A40, H⟩ := H
  try dsimp only at H
  have A4 := jb.mk A40; clear A40; simp only [Option.some.injEq, Prod.mk.injEq] at H; obtain ⟨rfl, rfl⟩ := H; go_enter Tryz.func16, Tryz.ntmps16
  go_wp2_with (first | ((with_reducible refine qp (f := 31) rfl ?_); refine qy (some 5) rfl rfl Tryz.func31 (by kernel_rfl) rfl #[.slice A0 l0.length c0] rfl (by (try simp only [List.map_toArray, List.map_cons, List.map_nil]); first | done | rfl | (simp only [List.length_drop, List.length_take]; rfl)) ?_; (with_reducible refine (impl_AreWalkers.calls _ _ l0 true _ ?side1 ?side2 A2.1).mono ?_); (case side1 => repeat (first | exact HR0.1 | (with_reducible refine Kd.C_alloc ?_ _) | (with_reducible refine Kd.C_drewN ?_ _) | (with_reducible refine Kd.C_drew ?_))); (case side2 => exact HC0.1); rintro e w5 ⟨rfl, hb⟩; refine ⟨_, rfl, ?_⟩; have n0_ := jb.mk (qk (by repeat (first | (with_reducible first | exact HB.1 | apply qb | apply qa | apply qc) | exact HB.1)) hb); clear HB; have HB := n0_; clear n0_; (try clear hb); (try clear hb2); (try clear hk); (try clear hi)) | ((with_reducible refine qp (f := 42) rfl ?_); refine qy (some 8) rfl rfl Tryz.func42 (by kernel_rfl) rfl #[.slice A0 l0.length c0] rfl (by (try simp only [List.map_toArray, List.map_cons, List.map_nil]); first | done | rfl | (simp only [List.length_drop, List.length_take]; rfl)) ?_; (with_reducible refine (impl_allMeetings.calls _ _ l0 t313 _ ?side1 ?side2 A4.1).mono ?_); (case side1 => repeat (first | exact (Kd.C_below HR0.1 HB.1) | (with_reducible refine Kd.C_alloc ?_ _) | (with_reducible refine Kd.C_drewN ?_ _) | (with_reducible refine Kd.C_drew ?_))); (case side2 => exact HC0.1); rintro e w6 ⟨v314, rfl, ho0, hb⟩; refine ⟨_, rfl, ?_⟩; have n0_ := jb.mk (Kd.S_lower ho0 (ql (by repeat (first | (with_reducible first | exact HB.1 | apply qb | apply qa | apply qc) | exact HB.1)))); have n1_ := jb.mk (qk (by repeat (first | (with_reducible first | exact HB.1 | apply qb | apply qa | apply qc) | exact HB.1)) hb); clear HB; have HO315 := n0_; have HB := n1_; clear n0_ n1_; (try clear hb); (try clear hb2); (try clear hk); (try clear hi); (try clear ho0); obtain ⟨Ao7, co7, eo7⟩ := Kd.S_slice HO315.1; subst eo7))
  go_ret2
  exact ⟨by first | rfl | (simp [qr, qq] <;> rfl) | (simp [*, qr, qq] <;> rfl), by repeat (first | (with_reducible first | exact HB.1 | apply qb | apply qa | apply qc) | exact HB.1)⟩
 replace c3 := Bool.eq_false_iff.mpr c3; subst c3; rw [if_neg (show ¬ (false = true) by decide)] at H; simp only [Option.some.injEq, Prod.mk.injEq] at H; obtain ⟨rfl, rfl⟩ := H; go_enter Tryz.func16, Tryz.ntmps16
 go_wp2_with (first | ((with_reducible refine qp (f := 31) rfl ?_); refine qy (some 5) rfl rfl Tryz.func31 (by kernel_rfl) rfl #[.slice A0 l0.length c0] rfl (by (try simp only [List.map_toArray, List.map_cons, List.map_nil]); first | done | rfl | (simp only [List.length_drop, List.length_take]; rfl)) ?_; (with_reducible refine (impl_AreWalkers.calls _ _ l0 false _ ?side1 ?side2 A2.1).mono ?_); (case side1 => repeat (first | exact HR0.1 | (with_reducible refine Kd.C_alloc ?_ _) | (with_reducible refine Kd.C_drewN ?_ _) | (with_reducible refine Kd.C_drew ?_))); (case side2 => exact HC0.1); rintro e w8 ⟨rfl, hb⟩; refine ⟨_, rfl, ?_⟩; have n0_ := jb.mk (qk (by repeat (first | (with_reducible first | exact HB.1 | apply qb | apply qa | apply qc) | exact HB.1)) hb); clear HB; have HB := n0_; clear n0_; (try clear hb); (try clear hb2); (try clear hk); (try clear hi)))
 go_ret2
 exact ⟨by first | rfl | (simp [qr, qq] <;> rfl) | (simp [*, qr, qq] <;> rfl), by repeat (first | (with_reducible first | exact HB.1 | apply qb | apply qa | apply qc) | exact HB.1)⟩

/-! ### spec_CountMeetings: function 17 -/
def spec_CountMeetings.f (k : Nat) (l0 : List (S25)) : Option (Int × Bool) := (spec_AllMeetings.f k l0).bind fun bt316 => (some ((bt316.1.length : Int), bt316.2))
set_option maxHeartbeats 8000000 in
set_option maxRecDepth 100000 in
theorem spec_CountMeetings.calls (k : Nat) (A0 : Option Addr) (c0 : Nat) (l0 : List (S25)) (r1 : Int) (r2 : Bool) (w : World) (hr0 : Kd.C k25 w A0 l0.length l0) (hc0 : l0.length ≤ c0) (h : spec_CountMeetings.f k l0 = some (r1, r2)) :
  Calls Tryz.prog 17 #[.slice A0 l0.length c0] w fun e w' => e = .returned (.tuple #[.int .i64 r1, .bool r2]) ∧ Below w.heap.size w w' := by
 have HR0 := jb.mk hr0; have HC0 := jb.mk hc0; clear hr0 hc0; have HB := jb.mk (Below.refl w.heap.size w); have H : ((spec_AllMeetings.f k l0).bind fun bt316 => (some ((bt316.1.length : Int), bt316.2))) = some (r1, r2) := h; clear h; replace H := Option.bind_eq_some_iff.mp H; obtain ⟨⟨t316, t319⟩, A20, H⟩ := H
 try dsimp only at H
 have A2 := jb.mk A20; clear A20; simp only [Option.some.injEq, Prod.mk.injEq] at H; obtain ⟨rfl, rfl⟩ := H; go_enter Tryz.func17, Tryz.ntmps17
 go_wp2_with (first | ((with_reducible refine qp (f := 15) rfl ?_); refine qy (some 8) rfl rfl Tryz.func15 (by kernel_rfl) rfl #[.slice A0 l0.length c0] rfl (by (try simp only [List.map_toArray, List.map_cons, List.map_nil]); first | done | rfl | (simp only [List.length_drop, List.length_take]; rfl)) ?_; (with_reducible refine (spec_AllMeetings.calls k _ _ l0 t316 t319 _ ?side1 ?side2 A2.1).mono ?_); (case side1 => repeat (first | exact HR0.1 | (with_reducible refine Kd.C_alloc ?_ _) | (with_reducible refine Kd.C_drewN ?_ _) | (with_reducible refine Kd.C_drew ?_))); (case side2 => exact HC0.1); rintro e w3 ⟨v317, rfl, ho0, hb⟩; refine ⟨_, rfl, ?_⟩; have n0_ := jb.mk (Kd.N_lower (Kd.N_mono (ok' := fun k_ => True) ho0 (fun k_ hk_ => trivial)) (ql (by repeat (first | (with_reducible first | exact HB.1 | apply qb | apply qa | apply qc) | exact HB.1)))); have n1_ := jb.mk (qk (by repeat (first | (with_reducible first | exact HB.1 | apply qb | apply qa | apply qc) | exact HB.1)) hb); clear HB; have HO318 := n0_; have HB := n1_; clear n0_ n1_; (try clear hb); (try clear hb2); (try clear hk); (try clear hi); (try clear ho0); obtain ⟨Ao4, co4, eo4⟩ := Kd.N_slice HO318.1; subst eo4))
 go_ret2
 exact ⟨by first | rfl | (simp [qr, qq] <;> rfl) | (simp [*, qr, qq] <;> rfl), by repeat (first | (with_reducible first | exact HB.1 | apply qb | apply qa | apply qc) | exact HB.1)⟩

-- NOT PRINTED: function 95 (abi_NoEscape)

-- NOT PRINTED: function 84 (strings_Builder_copyCheck)

-- NOT PRINTED: function 96 (bytealg_MakeNoZero)

-- NOT PRINTED: function 85 (strings_Builder_grow)

-- NOT PRINTED: function 70 (strings_Builder_Grow)

-- NOT PRINTED: function 71 (strings_Builder_WriteString)

-- NOT PRINTED: function 72 (strings_Builder_String)

-- NOT PRINTED: function 45 (strings_Join)

-- NOT PRINTED: function 104 (strconv_small)

-- NOT PRINTED: function 119 (strconv_log10Pow2)

-- NOT PRINTED: function 120 (bits_Len64)

-- NOT PRINTED: function 121 (strconv_bool2_int)

-- NOT PRINTED: function 105 (strconv_numDigits)

-- NOT PRINTED: function 106 (strconv_formatBase10)

-- NOT PRINTED: function 122 (strconv_isPowerOfTwo)

-- NOT PRINTED: function 129 (bits_TrailingZeros32)

-- NOT PRINTED: function 130 (bits_TrailingZeros64)

-- NOT PRINTED: function 123 (bits_TrailingZeros)

-- NOT PRINTED: function 107 (strconv_formatBits)

-- NOT PRINTED: function 94 (strconv_FormatInt)

-- NOT PRINTED: function 83 (strconv_Itoa_83)

-- NOT PRINTED: function 69 (strconv_Itoa_69)

-- NOT PRINTED: function 44 (impl_joinNumbers)

-- NOT PRINTED: function 18 (impl_WalkersText)

/-! ### spec_l1Num: function 86 -/
def spec_l1Num.f : Nat → Int → Option (ByteArray)
 | 0, _ => none
 | k + 1, a0 => if a0 < 10 then (some (strOfNums (([(wrap64 (48 + a0)) % 256] : List Int)))) else ((spec_l1Num.f k (wrap64 (Int.tdiv a0 10))).bind fun t336 => ((some (([(wrap64 (48 + (Int.tmod a0 10))) % 256] : List Int) : List Int)).bind fun y337 => (if t336.size + (strOfNums y337).size ≤ 9223372036854775807 then (some (t336 ++ (strOfNums y337))) else (none))))
def spec_l1Num.T3 : Bool × List (List Nat × List Nat) := (true, [([], []), ([0], [0]), ([1], [1]), ([], []), ([3], [3]), ([4], [4]), ([5], [5]), ([6], [6]), ([7], [7]), ([2, 8], [2, 8]), ([9, 2, 0, 1, 2, 3, 4, 5, 6, 7, 8, 9], [9])])
def spec_l1Num.B3 : List Nat := [0, 1, 3, 0, 8, 24, 56, 120, 248, 511, 1023]
theorem spec_l1Num.tab3 : rtab .any (opsOf Tryz.f86 3) = spec_l1Num.T3 := by kernel_rfl
theorem spec_l1Num.bits3 : waitsOk spec_l1Num.T3.2 spec_l1Num.B3 = true := by kernel_rfl
set_option maxHeartbeats 8000000 in
set_option maxRecDepth 100000 in
theorem spec_l1Num.calls (k : Nat) : ∀ (a0 : Int) (r : ByteArray) (w : World) (h : spec_l1Num.f k a0 = some r),
  Calls Tryz.prog 86 #[.int .i64 a0] w fun e w' => e = .returned (.string r) ∧ Below w.heap.size w w' := by
 induction k using Nat.strongRecOn with
 | _ k ih =>
 intro a0 r w h; cases k with
 | zero => exact absurd h (by simp [spec_l1Num.f])
 | succ k =>
 simp only [spec_l1Num.f] at h; have HB := jb.mk (Below.refl w.heap.size w); have H : (if a0 < 10 then (some (strOfNums (([(wrap64 (48 + a0)) % 256] : List Int)))) else ((spec_l1Num.f k (wrap64 (Int.tdiv a0 10))).bind fun t336 => ((some (([(wrap64 (48 + (Int.tmod a0 10))) % 256] : List Int) : List Int)).bind fun y337 => (if t336.size + (strOfNums y337).size ≤ 9223372036854775807 then (some (t336 ++ (strOfNums y337))) else (none))))) = some r := h; clear h
 by_cases c2 : a0 < 10
 ·rw [if_pos c2] at H; have c2b0 : decide (a0 < 10) = true := decide_eq_true c2; clear c2; obtain ⟨y333, hy333⟩ : ∃ y_ : List Int, y_ = (([(wrap64 (48 + a0)) % 256] : List Int)) := ⟨_, rfl⟩; replace H : (some (strOfNums y333)) = some r := by first | (rw [hy333]; with_reducible exact H) | (have H2_ := (Option.bind_some _ _).symm.trans H; rw [hy333]; with_reducible exact H2_) | (have H2_ := (Option.bind_some _ _).symm.trans H; with_reducible exact H2_) | with_reducible exact H | (rw [hy333]; exact H) | exact H
  have Ny333 := jb.mk hy333; clear hy333; obtain rfl := Option.some.inj H; go_enter Tryz.func86, Tryz.ntmps86
  go_wp2_with (first | ((with_reducible refine qv (N := 8) rfl ?_); refine Kd.R_lit (Kd.int .u8) _ 5 ?hg (N := 8) ?hd (xs := ([(wrap64 (48 + a0)) % 256] : List Int)) (inner := [.int .u8 ((wrap64 (48 + a0)) % 256)]) (ok := fun _ => True) (okp := fun _ => True) ?hr ?hp (fun _ hk => hk) trivial (Below.refl _ _) (Nat.le_refl _) (by simp) ?_; (case hd => rfl); (case hg => rfl); (case hr => first | (go_simp; done) | (go_simp; rfl)); (case hp => exact (Reps.one (show Kd.M (Kd.int .u8) _ _ _ ((wrap64 (48 + a0)) % 256) [.int .u8 ((wrap64 (48 + a0)) % 256)] from rfl) (Reps.none _ _))); intro v334 w3 ho4 hb hg_ hnew_; clear hg_ hnew_; (first | rw [← Ny333.out] at ho4 | (simp only [Int.reduceToNat] at ho4; rw [← Ny333.out] at ho4)); have n0_ := jb.mk (Kd.R_lower ho4 (ql (by repeat (first | (with_reducible first | exact HB.1 | apply qb | apply qa | apply qc) | exact HB.1)))); have n1_ := jb.mk (qk (by repeat (first | (with_reducible first | exact HB.1 | apply qb | apply qa | apply qc) | exact HB.1)) hb); clear HB; have HO335 := n0_; have HB := n1_; clear n0_ n1_; clear hb ho4; have hcv5 := own_string (P := Tryz.prog) Tryz.underlying22 Tryz.underlying5 Tryz.underlying9 (Kd.own_of_R HO335.1)))
  go_ret
  exact ⟨by first | rfl | (simp [qr, qq] <;> rfl) | (simp [*, qr, qq] <;> rfl), by repeat (first | (with_reducible first | exact HB.1 | apply qb | apply qa | apply qc) | exact HB.1)⟩
 rw [if_neg c2] at H; have c2b0 : decide (a0 < 10) = false := decide_eq_false c2; clear c2; replace H := Option.bind_eq_some_iff.mp H; obtain ⟨t336, A60, H⟩ := H
 try dsimp only at H
 have A6 := jb.mk A60; clear A60; obtain ⟨y337, hy337⟩ : ∃ y_ : List Int, y_ = (([(wrap64 (48 + (Int.tmod a0 10))) % 256] : List Int)) := ⟨_, rfl⟩; replace H : (if t336.size + (strOfNums y337).size ≤ 9223372036854775807 then (some (t336 ++ (strOfNums y337))) else (none)) = some r := by first | (rw [hy337]; with_reducible exact H) | (have H2_ := (Option.bind_some _ _).symm.trans H; rw [hy337]; with_reducible exact H2_) | (have H2_ := (Option.bind_some _ _).symm.trans H; with_reducible exact H2_) | with_reducible exact H | (rw [hy337]; exact H) | exact H
 have Ny337 := jb.mk hy337; clear hy337
 by_cases c7 : t336.size + (strOfNums y337).size ≤ 9223372036854775807
 ·rw [if_pos c7] at H; have c7b0 := eq_true c7; have c7b1 : decide (t336.size + (strOfNums y337).size ≤ 9223372036854775807) = true := decide_eq_true c7
  try have c7b2 : (9223372036854775807 < t336.size + (strOfNums y337).size) = False := eq_false (Nat.not_lt.2 c7)
  obtain rfl := Option.some.inj H; go_enter Tryz.func86, Tryz.ntmps86
  try go_wp2
  have n0_ := jb.mk (qc HB.1); clear HB; have HB := n0_; clear n0_; refine start_ (n := 11) (S := fun w' => True) (ds := []) #[false,false,false,false,false,false,false,false,false,false,false] (by kernel_rfl) rfl rfl trivial (fun hHeld => ?_); refine with_tabW spec_l1Num.tab3 spec_l1Num.bits3 (fun HT_ HW_ => ?_); generalize w.drew = w8 at HB hHeld ⊢; refine pure_ (i := 0) (N := some 10) (v := ?_) (a' := ?_) #[true,false,false,false,false,false,false,false,false,false,false] rfl rfl (any_of HT_.1 (by kernel_rfl)) (fun _ _ _ h => h) (Or.inl ⟨by rfl, ?_⟩) ?_ ?_; rotate_left
  ·intro w'; go_simp; with_reducible rfl
  rotate_left
  ·simp only [Act.put, setIfInBounds_toArray, set_cons_zero, set_cons_succ, i64_w, i32_w]; rfl
  refine pure_ (i := 1) (N := some 11) (v := ?_) (a' := ?_) #[true,true,false,false,false,false,false,false,false,false,false] rfl rfl (any_of HT_.1 (by kernel_rfl)) (fun _ _ _ h => h) (Or.inl ⟨by rfl, ?_⟩) ?_ ?_; rotate_left
  ·intro w'; go_simp; with_reducible rfl
  rotate_left
  ·simp only [Act.put, setIfInBounds_toArray, set_cons_zero, set_cons_succ, i64_w, i32_w]; rfl
  refine pure_ (i := 3) (N := some 13) (v := ?_) (a' := ?_) #[true,true,false,true,false,false,false,false,false,false,false] rfl rfl (any_of HT_.1 (by kernel_rfl)) (fun _ _ _ h => h) (Or.inl ⟨by rfl, ?_⟩) ?_ ?_; rotate_left
  ·intro w'; go_simp; with_reducible rfl
  rotate_left
  ·simp only [Act.put, setIfInBounds_toArray, set_cons_zero, set_cons_succ, i64_w, i32_w]; rfl
  refine pure_ (i := 4) (N := some 14) (v := ?_) (a' := ?_) #[true,true,false,true,true,false,false,false,false,false,false] rfl rfl (any_of HT_.1 (by kernel_rfl)) (fun _ _ _ h => h) (Or.inl ⟨by rfl, ?_⟩) ?_ ?_; rotate_left
  ·intro w'; go_simp; with_reducible rfl
  rotate_left
  ·simp only [Act.put, setIfInBounds_toArray, set_cons_zero, set_cons_succ, i64_w, i32_w]; rfl
  refine pure_ (i := 5) (N := some 15) (v := ?_) (a' := ?_) #[true,true,false,true,true,true,false,false,false,false,false] rfl rfl (any_of HT_.1 (by kernel_rfl)) (fun _ _ _ h => h) (Or.inl ⟨by rfl, ?_⟩) ?_ ?_; rotate_left
  ·intro w'; go_simp; with_reducible rfl
  rotate_left
  ·simp only [Act.put, setIfInBounds_toArray, set_cons_zero, set_cons_succ, i64_w, i32_w]; rfl
  refine pure_ (i := 6) (N := some 16) (v := ?_) (a' := ?_) #[true,true,false,true,true,true,true,false,false,false,false] rfl rfl (any_of HT_.1 (by kernel_rfl)) (fun _ _ _ h => h) (Or.inl ⟨by rfl, ?_⟩) ?_ ?_; rotate_left
  ·intro w'; go_simp; with_reducible rfl
  rotate_left
  ·simp only [Act.put, setIfInBounds_toArray, set_cons_zero, set_cons_succ, i64_w, i32_w]; rfl
  refine join_ (σ := Value) 2 #[true,true,true,true,true,true,true,true,true,false,false] (fun s_ => [(12, .string t336), (17, s_), (18, .string (strOfNums y337))]) (fun s_ w' => (Kd.R (Kd.int .u8) 5 w' w.heap.size (fun _ => True) s_ y337) ∧ (Below w.heap.size w w')) ?_ ?_; rotate_left
  ·intro hCont; refine two_ (i := 2) (j := 7) (Ni := some 12) (Nj := some 17) #[true,true,true,true,true,true,true,false,false,false,false] #[true,true,false,true,true,true,true,true,false,false,false] rfl rfl rfl rfl (two_of HT_.1 (by kernel_rfl)) (by decide) (by decide) (fun K hK => ?_) (fun K hK => ?_)
   ·skip
    refine goes_ Tryz.func86 (by kernel_rfl) rfl #[.int .i64 (wrap64 (Int.tdiv a0 10))] (by rfl) rfl rfl (by (try simp only [List.map_toArray, List.map_cons, List.map_nil]); first | done | rfl | (simp only [List.length_drop, List.length_take]; rfl)) ?_
    with_reducible refine (ih k (by omega) (wrap64 (Int.tdiv a0 10)) t336 _ A6.1).mono ?_
    rintro e w9 ⟨rfl, hb⟩; refine ⟨_, rfl, ?_⟩; have n0_ := jb.mk (qk (by repeat (first | (with_reducible first | exact HB.1 | apply qb | apply qa | apply qc) | exact HB.1)) hb); clear HB; have HB := n0_; clear n0_; (try clear hb); (try clear hb2); (try clear hk); (try clear hi); refine hK.out _ _ trivial (fun hHeld => ?_); clear hK K; refine norm_ (a' := ?_) ?_ ?_; rotate_left
    ·show Act.put _ (some 12) _ = _
     simp only [Act.put, setIfInBounds_toArray, set_cons_zero, set_cons_succ, i64_w, i32_w]; rfl
    refine one_ (i := 7) (N := some 17) #[true,true,true,true,true,true,true,true,false,false,false] rfl rfl (one_of HT_.1 (by kernel_rfl)) (by decide) (fun K hK => ?_); refine Kd.R_lit_step (Kd.int .u8) _ 5 ?hg (N := 17) ?hd (xs := ([(wrap64 (48 + (Int.tmod a0 10))) % 256] : List Int)) (inner := [.int .u8 ((wrap64 (48 + (Int.tmod a0 10))) % 256)]) (ok := fun _ => True) (okp := fun _ => True) ?hr ?hp (fun _ hk => hk) trivial (Below.refl _ _) (Nat.le_refl _) (by simp) ?_; (case hd => rfl); (case hg => rfl); (case hr => first | (go_simp; done) | (go_simp; rfl)); (case hp => exact (Reps.one (show Kd.M (Kd.int .u8) _ _ _ ((wrap64 (48 + (Int.tmod a0 10))) % 256) [.int .u8 ((wrap64 (48 + (Int.tmod a0 10))) % 256)] from rfl) (Reps.none _ _))); intro v338 w10 ho11 hb hg_ hnew_; clear hg_ hnew_
    (first | rw [← Ny337.out] at ho11 | (simp only [Int.reduceToNat] at ho11; rw [← Ny337.out] at ho11))
    have n0_ := jb.mk (Kd.R_lower ho11 (ql (by repeat (first | (with_reducible first | exact HB.1 | apply qb | apply qa | apply qc) | exact HB.1)))); have n1_ := jb.mk (qk (by repeat (first | (with_reducible first | exact HB.1 | apply qb | apply qa | apply qc) | exact HB.1)) hb); clear HB; have HO339 := n0_; have HB := n1_; clear n0_ n1_; clear hb ho11; refine hK.out _ _ trivial (fun hHeld => ?_); clear hK K; refine norm_ (a' := ?_) ?_ ?_; rotate_left
    ·show Act.put _ (some 17) _ = _
     simp only [Act.put, setIfInBounds_toArray, set_cons_zero, set_cons_succ, i64_w, i32_w]; rfl
    refine one_ (i := 8) (N := some 18) #[true,true,true,true,true,true,true,true,true,false,false] rfl rfl (one_of HT_.1 (by kernel_rfl)) (by decide) (fun K hK => ?_); have hcv12 := own_string (P := Tryz.prog) Tryz.underlying22 Tryz.underlying5 Tryz.underlying9 (Kd.own_of_R HO339.1); refine value_ (w1 := ?_) (v := ?_) (by rfl) rfl ?_ ?_; rotate_left 2
    ·go_simp; constructor
     ·rfl
     rfl
    clear hcv12; refine hK.out _ _ trivial (fun hHeld => ?_); clear hK K; refine norm_ (a' := ?_) ?_ ?_; rotate_left
    ·show Act.put _ (some 18) _ = _
     simp only [Act.put, setIfInBounds_toArray, set_cons_zero, set_cons_succ, i64_w, i32_w]; rfl
    exact norm_ (by simp only [putAll, Act.put, setIfInBounds_toArray, set_cons_zero, set_cons_succ]) (hCont (v338) _ ⟨(by (with_reducible repeat (first | apply Kd.ja | apply Kd.qz | apply Kd.R_drew)); exact HO339.1), (by repeat (first | (with_reducible first | exact HB.1 | apply qb | apply qa | apply qc) | exact HB.1))⟩)
   skip
   refine Kd.R_lit_step (Kd.int .u8) _ 5 ?hg (N := 17) ?hd (xs := ([(wrap64 (48 + (Int.tmod a0 10))) % 256] : List Int)) (inner := [.int .u8 ((wrap64 (48 + (Int.tmod a0 10))) % 256)]) (ok := fun _ => True) (okp := fun _ => True) ?hr ?hp (fun _ hk => hk) trivial (Below.refl _ _) (Nat.le_refl _) (by simp) ?_; (case hd => rfl); (case hg => rfl); (case hr => first | (go_simp; done) | (go_simp; rfl)); (case hp => exact (Reps.one (show Kd.M (Kd.int .u8) _ _ _ ((wrap64 (48 + (Int.tmod a0 10))) % 256) [.int .u8 ((wrap64 (48 + (Int.tmod a0 10))) % 256)] from rfl) (Reps.none _ _))); intro v338 w9 ho10 hb hg_ hnew_; clear hg_ hnew_
   (first | rw [← Ny337.out] at ho10 | (simp only [Int.reduceToNat] at ho10; rw [← Ny337.out] at ho10))
   have n0_ := jb.mk (Kd.R_lower ho10 (ql (by repeat (first | (with_reducible first | exact HB.1 | apply qb | apply qa | apply qc) | exact HB.1)))); have n1_ := jb.mk (qk (by repeat (first | (with_reducible first | exact HB.1 | apply qb | apply qa | apply qc) | exact HB.1)) hb); clear HB; have HO339 := n0_; have HB := n1_; clear n0_ n1_; clear hb ho10; refine hK.out _ _ trivial (fun hHeld => ?_); clear hK K; refine norm_ (a' := ?_) ?_ ?_; rotate_left
   ·show Act.put _ (some 17) _ = _
    simp only [Act.put, setIfInBounds_toArray, set_cons_zero, set_cons_succ, i64_w, i32_w]; rfl
   refine two_ (i := 2) (j := 8) (Ni := some 12) (Nj := some 18) #[true,true,true,true,true,true,true,true,false,false,false] #[true,true,false,true,true,true,true,true,true,false,false] rfl rfl rfl rfl (two_of HT_.1 (by kernel_rfl)) (by decide) (by decide) (fun K hK => ?_) (fun K hK => ?_)
   ·skip
    refine goes_ Tryz.func86 (by kernel_rfl) rfl #[.int .i64 (wrap64 (Int.tdiv a0 10))] (by rfl) rfl rfl (by (try simp only [List.map_toArray, List.map_cons, List.map_nil]); first | done | rfl | (simp only [List.length_drop, List.length_take]; rfl)) ?_
    with_reducible refine (ih k (by omega) (wrap64 (Int.tdiv a0 10)) t336 _ A6.1).mono ?_
    rintro e w11 ⟨rfl, hb⟩; refine ⟨_, rfl, ?_⟩; have n0_ := jb.mk (Kd.R_below (by (with_reducible repeat (first | apply Kd.ja | apply Kd.qz | apply Kd.R_drew)); exact HO339.1) hb); have n1_ := jb.mk (qk (by repeat (first | (with_reducible first | exact HB.1 | apply qb | apply qa | apply qc) | exact HB.1)) hb); clear HO339 HB; have HO339 := n0_; have HB := n1_; clear n0_ n1_; (try clear hb); (try clear hb2); (try clear hk); (try clear hi); refine hK.out _ _ trivial (fun hHeld => ?_); clear hK K; refine norm_ (a' := ?_) ?_ ?_; rotate_left
    ·show Act.put _ (some 12) _ = _
     simp only [Act.put, setIfInBounds_toArray, set_cons_zero, set_cons_succ, i64_w, i32_w]; rfl
    refine one_ (i := 8) (N := some 18) #[true,true,true,true,true,true,true,true,true,false,false] rfl rfl (one_of HT_.1 (by kernel_rfl)) (by decide) (fun K hK => ?_); have hcv12 := own_string (P := Tryz.prog) Tryz.underlying22 Tryz.underlying5 Tryz.underlying9 (Kd.own_of_R HO339.1); refine value_ (w1 := ?_) (v := ?_) (by rfl) rfl ?_ ?_; rotate_left 2
    ·go_simp; constructor
     ·rfl
     rfl
    clear hcv12; refine hK.out _ _ trivial (fun hHeld => ?_); clear hK K; refine norm_ (a' := ?_) ?_ ?_; rotate_left
    ·show Act.put _ (some 18) _ = _
     simp only [Act.put, setIfInBounds_toArray, set_cons_zero, set_cons_succ, i64_w, i32_w]; rfl
    exact norm_ (by simp only [putAll, Act.put, setIfInBounds_toArray, set_cons_zero, set_cons_succ]) (hCont (v338) _ ⟨(by (with_reducible repeat (first | apply Kd.ja | apply Kd.qz | apply Kd.R_drew)); exact HO339.1), (by repeat (first | (with_reducible first | exact HB.1 | apply qb | apply qa | apply qc) | exact HB.1))⟩)
   skip
   have hcv11 := own_string (P := Tryz.prog) Tryz.underlying22 Tryz.underlying5 Tryz.underlying9 (Kd.own_of_R HO339.1); refine value_ (w1 := ?_) (v := ?_) (by rfl) rfl ?_ ?_; rotate_left 2
   ·go_simp; constructor
    ·rfl
    rfl
   clear hcv11; refine hK.out _ _ trivial (fun hHeld => ?_); clear hK K; refine norm_ (a' := ?_) ?_ ?_; rotate_left
   ·show Act.put _ (some 18) _ = _
    simp only [Act.put, setIfInBounds_toArray, set_cons_zero, set_cons_succ, i64_w, i32_w]; rfl
   refine one_ (i := 2) (N := some 12) #[true,true,true,true,true,true,true,true,true,false,false] rfl rfl (one_of HT_.1 (by kernel_rfl)) (by decide) (fun K hK => ?_); refine goes_ Tryz.func86 (by kernel_rfl) rfl #[.int .i64 (wrap64 (Int.tdiv a0 10))] (by rfl) rfl rfl (by (try simp only [List.map_toArray, List.map_cons, List.map_nil]); first | done | rfl | (simp only [List.length_drop, List.length_take]; rfl)) ?_
   with_reducible refine (ih k (by omega) (wrap64 (Int.tdiv a0 10)) t336 _ A6.1).mono ?_
   rintro e w12 ⟨rfl, hb⟩; refine ⟨_, rfl, ?_⟩; have n0_ := jb.mk (Kd.R_below (by (with_reducible repeat (first | apply Kd.ja | apply Kd.qz | apply Kd.R_drew)); exact HO339.1) hb); have n1_ := jb.mk (qk (by repeat (first | (with_reducible first | exact HB.1 | apply qb | apply qa | apply qc) | exact HB.1)) hb); clear HO339 HB; have HO339 := n0_; have HB := n1_; clear n0_ n1_; (try clear hb); (try clear hb2); (try clear hk); (try clear hi); refine hK.out _ _ trivial (fun hHeld => ?_); clear hK K; refine norm_ (a' := ?_) ?_ ?_; rotate_left
   ·show Act.put _ (some 12) _ = _
    simp only [Act.put, setIfInBounds_toArray, set_cons_zero, set_cons_succ, i64_w, i32_w]; rfl
   exact norm_ (by simp only [putAll, Act.put, setIfInBounds_toArray, set_cons_zero, set_cons_succ]) (hCont (v338) _ ⟨(by (with_reducible repeat (first | apply Kd.ja | apply Kd.qz | apply Kd.R_drew)); exact HO339.1), (by repeat (first | (with_reducible first | exact HB.1 | apply qb | apply qa | apply qc) | exact HB.1))⟩)
  rintro v338 w13 ⟨h0_, h1_⟩; have n0_ : jb (Kd.R (Kd.int .u8) 5 w13 w.heap.size (fun _ => True) v338 y337) := ⟨h0_⟩; have n1_ : jb (Below w.heap.size w w13) := ⟨h1_⟩; clear HB; clear h0_ h1_; have HO339 := n0_; have HB := n1_; clear n0_ n1_; have hHeld := trivial; refine norm_ (a' := ?_) ?_ ?_; rotate_left
  ·simp only [putAll, Act.put, setIfInBounds_toArray, set_cons_zero, set_cons_succ]; rfl
  refine pure_ (i := 9) (N := some 19) (v := ?_) (a' := ?_) #[true,true,true,true,true,true,true,true,true,true,false] rfl rfl (any_of HT_.1 (by kernel_rfl)) (fun _ _ _ h => h) (Or.inl ⟨by rfl, ?_⟩) ?_ ?_; rotate_left
  ·intro w'; go_simp; with_reducible rfl
  rotate_left
  ·simp only [Act.put, setIfInBounds_toArray, set_cons_zero, set_cons_succ, i64_w, i32_w]; rfl
  refine pure_ (i := 10) (N := some 2) (v := ?_) (a' := ?_) #[true,true,true,true,true,true,true,true,true,true,true] rfl rfl (any_of HT_.1 (by kernel_rfl)) (fun _ _ _ h => h) (Or.inl ⟨by rfl, ?_⟩) ?_ ?_; rotate_left
  ·intro w'; go_simp; with_reducible rfl
  rotate_left
  ·simp only [Act.put, setIfInBounds_toArray, set_cons_zero, set_cons_succ, i64_w, i32_w]; rfl
  refine done_ (done_of HT_.1 (by kernel_rfl)) ?_
  try go_wp2
  go_ret
  exact ⟨by first | rfl | (simp [qr, qq] <;> rfl) | (simp [*, qr, qq] <;> rfl), by repeat (first | (with_reducible first | exact HB.1 | apply qb | apply qa | apply qc) | exact HB.1)⟩
 rw [if_neg c7] at H; exact absurd H (by simp)

/-! ### spec_l1Int: function 73 -/
def spec_l1Int.f (k : Nat) (a0 : Int) : Option (ByteArray) := if a0 < 0 then ((spec_l1Num.f k (wrap64 (-a0))).bind fun t340 => (if 1 + t340.size ≤ 9223372036854775807 then (some ((⟨#[45]⟩ : ByteArray) ++ t340)) else (none))) else ((spec_l1Num.f k a0).bind fun t341 => (some t341))
set_option maxHeartbeats 8000000 in
set_option maxRecDepth 100000 in
theorem spec_l1Int.calls (k : Nat) (a0 : Int) (r : ByteArray) (w : World) (h : spec_l1Int.f k a0 = some r) :
  Calls Tryz.prog 73 #[.int .i64 a0] w fun e w' => e = .returned (.string r) ∧ Below w.heap.size w w' := by
 have HB := jb.mk (Below.refl w.heap.size w); have H : (if a0 < 0 then ((spec_l1Num.f k (wrap64 (-a0))).bind fun t340 => (if 1 + t340.size ≤ 9223372036854775807 then (some ((⟨#[45]⟩ : ByteArray) ++ t340)) else (none))) else ((spec_l1Num.f k a0).bind fun t341 => (some t341))) = some r := h; clear h
 by_cases c2 : a0 < 0
 ·rw [if_pos c2] at H; have c2b0 : decide (a0 < 0) = true := decide_eq_true c2; clear c2; replace H := Option.bind_eq_some_iff.mp H; obtain ⟨t340, A30, H⟩ := H
  try dsimp only at H
  have A3 := jb.mk A30; clear A30
  by_cases c4 : 1 + t340.size ≤ 9223372036854775807
  ·rw [if_pos c4] at H; have c4b0 := eq_true c4; have c4b1 : decide (1 + t340.size ≤ 9223372036854775807) = true := decide_eq_true c4
   try have c4b2 : (9223372036854775807 < 1 + t340.size) = False := eq_false (Nat.not_lt.2 c4)
   obtain rfl := Option.some.inj H; go_enter Tryz.func73, Tryz.ntmps73
   go_wp2_with (first | ((with_reducible refine qp (f := 86) rfl ?_); refine qy (some 7) rfl rfl Tryz.func86 (by kernel_rfl) rfl #[.int .i64 (wrap64 (-a0))] rfl (by (try simp only [List.map_toArray, List.map_cons, List.map_nil]); first | done | rfl | (simp only [List.length_drop, List.length_take]; rfl)) ?_; (with_reducible refine (spec_l1Num.calls k (wrap64 (-a0)) t340 _ A3.1).mono ?_); rintro e w5 ⟨rfl, hb⟩; refine ⟨_, rfl, ?_⟩; have n0_ := jb.mk (qk (by repeat (first | (with_reducible first | exact HB.1 | apply qb | apply qa | apply qc) | exact HB.1)) hb); clear HB; have HB := n0_; clear n0_; (try clear hb); (try clear hb2); (try clear hk); (try clear hi)))
   go_ret
   exact ⟨by first | rfl | (simp [qr, qq] <;> rfl) | (simp [*, qr, qq] <;> rfl), by repeat (first | (with_reducible first | exact HB.1 | apply qb | apply qa | apply qc) | exact HB.1)⟩
  rw [if_neg c4] at H; exact absurd H (by simp)
 rw [if_neg c2] at H; have c2b0 : decide (a0 < 0) = false := decide_eq_false c2; clear c2; replace H := Option.bind_eq_some_iff.mp H; obtain ⟨t341, A60, H⟩ := H
 try dsimp only at H
 have A6 := jb.mk A60; clear A60; obtain rfl := Option.some.inj H; go_enter Tryz.func73, Tryz.ntmps73
 go_wp2_with (first | ((with_reducible refine qp (f := 86) rfl ?_); refine qy (some 10) rfl rfl Tryz.func86 (by kernel_rfl) rfl #[.int .i64 a0] rfl (by (try simp only [List.map_toArray, List.map_cons, List.map_nil]); first | done | rfl | (simp only [List.length_drop, List.length_take]; rfl)) ?_; (with_reducible refine (spec_l1Num.calls k a0 t341 _ A6.1).mono ?_); rintro e w7 ⟨rfl, hb⟩; refine ⟨_, rfl, ?_⟩; have n0_ := jb.mk (qk (by repeat (first | (with_reducible first | exact HB.1 | apply qb | apply qa | apply qc) | exact HB.1)) hb); clear HB; have HB := n0_; clear n0_; (try clear hb); (try clear hb2); (try clear hk); (try clear hi)))
 go_ret
 exact ⟨by first | rfl | (simp [qr, qq] <;> rfl) | (simp [*, qr, qq] <;> rfl), by repeat (first | (with_reducible first | exact HB.1 | apply qb | apply qa | apply qc) | exact HB.1)⟩

end Go.Proofs.YtoideilmkcpilaaGreatDoor.OFnWalkersMeet
