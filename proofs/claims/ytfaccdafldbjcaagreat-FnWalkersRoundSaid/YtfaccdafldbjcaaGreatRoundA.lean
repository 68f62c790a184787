/- The law FnWalkersRound walked to its end, its callees' answers known. -/
import Derived.Test.YtfaccdafldbjcaaGreatRoundD
namespace Go.Proofs.YtfaccdafldbjcaaGreat.OFnWalkersRound
open Go.RowKit Go.Proofs.YtfaccdafldbjcaaGreatW.PrintWords Go.Proofs.YtfaccdafldbjcaaGreatW.PrintLast Go.Proofs.YtfaccdafldbjcaaGreatW.PrintMore
set_option linter.unusedVariables false
set_option linter.unusedSimpArgs false
theorem box1 (W : World) (a b : Int) (t : TypeId) : Below W.heap.size W (W.alloc (.cells #[.int .i64 a, .int .i64 b] t)) ∧ (W.alloc (.cells #[.int .i64 a, .int .i64 b] t)).cell? ⟨W.heap.size, 0, none⟩ = some (.int .i64 a) ∧ (W.alloc (.cells #[.int .i64 a, .int .i64 b] t)).cell? ⟨W.heap.size, 1, none⟩ = some (.int .i64 b) := by
  have z := heap_alloc_new W (.cells #[.int .i64 a, .int .i64 b] t)
  exact ⟨qb (Below.refl W.heap.size W) _, (qh z 0).trans rfl, (qh z 1).trans rfl⟩
set_option maxHeartbeats 60000000 in
set_option maxRecDepth 100000 in
theorem roundA (Ac Am : Option Addr) (cc cm : Nat) (lc lm : List Int) (w0 : World)
    (hbig : ∀ W, Below w0.heap.size w0 W → Calls Tryz.prog 4 #[.slice Ac lc.length cc, .slice Am lm.length cm] W fun e w' => e = .returned (.bool false) ∧ Below W.heap.size W w')
    (hd1 : ∀ W, Below w0.heap.size w0 W → Calls Tryz.prog 5 #[.slice Ac lc.length cc] W (DrawP.DrwRT W)) (hd2 : ∀ W, Below w0.heap.size w0 W → Calls Tryz.prog 14 #[.slice Am lm.length cm] W (DrawP.DrwCR W))
    (hd3 : ∀ W, Below w0.heap.size w0 W → Calls Tryz.prog 17 #[.slice Am lm.length cm] W (DrawP.DrwListT W)) (hd4 : ∀ W, Below w0.heap.size w0 W → Calls Tryz.prog 20 #[.slice Am lm.length cm] W (DrawP.DrwList W))
    (hd5 : ∀ W, Below w0.heap.size w0 W → Calls Tryz.prog 25 #[.slice Am lm.length cm] W (DrawP.DrwRingL W))
    (hR : ∀ a p s p' s', ROwes a p s p' s') (hC : ∀ a p s p' s' t, COwes a p s p' s' t) (hW : ∀ (l : List S25) m n, l.length ≤ 200 → WOwes l m n) (hG : ∀ l : List S25, l.length ≤ 200 → GOwes l) (hA : ∀ a (l : List S25), l.length ≤ 200 → AOwes a l) :
    Calls Tryz.prog 3 #[.slice Ac lc.length cc, .slice Am lm.length cm] w0 fun e w' => e = .returned (.bool true) ∧ Below w0.heap.size w0 w' := by
  have HBG := jb.mk hbig
  have HD1 := jb.mk hd1
  have HD2 := jb.mk hd2
  have HD3 := jb.mk hd3
  have HD4 := jb.mk hd4
  have HD5 := jb.mk hd5
  have HRO := jb.mk hR
  have HCO := jb.mk hC
  have HWO := jb.mk hW
  have HGO := jb.mk hG
  have HAO := jb.mk hA
  clear hbig hd1 hd2 hd3 hd4 hd5 hR hC hW hG hA
  have hu := Tryz.underlying25
  have mixed : Tryz.prog.follows .mixedOrders = true := by kernel_rfl
  go_enter Tryz.func3, Tryz.ntmps3
  go_wp2_with fail
  (with_reducible refine (HBG.out _ (Below.refl _ _)).mono ?_)
  rintro e u1 ⟨rfl, hb1⟩
  go_wp2_with fail
  (with_reducible refine (HD1.out _ hb1).mono ?_)
  rintro e v0 ⟨a, p, s, p', s', rfl, hb2⟩
  have HW0 := jb.mk (hb1.trans (hb2.mono hb1.size))
  clear hb1 hb2
  obtain ⟨K, rs, num, den, gap, part, ok, one, h1, h2, h3, h4, h5, h6, h7, f0, f1, f2⟩ := HRO.out a p s p' s'
  have H1 := jb.mk h1
  have H2 := jb.mk h2
  have H3 := jb.mk h3
  have H4 := jb.mk h4
  have H5 := jb.mk h5
  have H6 := jb.mk h6
  have H7 := jb.mk h7
  have F0 := jb.mk f0
  have F1 := jb.mk f1
  have F2 := jb.mk f2
  clear h1 h2 h3 h4 h5 h6 h7 f0 f1 f2 HRO HD1 HBG
  have HB := jb.mk (B2.start v0 p s p' s' 25)
  obtain ⟨c0, c1, c2, c3⟩ := HB.out.2
  go_upto_region 10 with (first
      | (go_at_call 6; (with_reducible refine (H1.out _).mono ?_); rintro e w1 ⟨v7, rfl, hRR⟩; have hb1 := hRR.choose_spec.1; obtain ⟨gs, hRS⟩ := hRR.RS; obtain ⟨A7, n7, e7⟩ := Kd.R_slice hRS.R; subst e7; have R7 := jb.mk hRS; clear hRS hRR; replace HB := jb.mk (HB.out.step hb1); (try clear c0 c1 c2 c3); obtain ⟨c0, c1, c2, c3⟩ := HB.out.2; clear hb1)
      | (go_at_call 7; (with_reducible refine (spec_RingPlaces.calls K a p s p' s' rs ok _ H2.out).mono ?_); rintro e w1 ⟨v8, rfl, hN, hb1⟩; obtain ⟨A8, n8, e8⟩ := Kd.S_slice hN; subst e8; have N7 := jb.mk hN; clear hN; replace R7 := jb.mk (R7.out.below hb1); replace HB := jb.mk (HB.out.step hb1); (try clear c0 c1 c2 c3); obtain ⟨c0, c1, c2, c3⟩ := HB.out.2; clear hb1)
      | (go_at_call 8; (with_reducible refine (H3.out _).mono ?_); rintro e w1 ⟨rfl, hb1⟩; replace R7 := jb.mk (R7.out.below hb1); replace N7 := jb.mk (Kd.S_below N7.out hb1); replace HB := jb.mk (HB.out.step hb1); (try clear c0 c1 c2 c3); obtain ⟨c0, c1, c2, c3⟩ := HB.out.2; clear hb1)
      | (go_at_call 9; (with_reducible refine (H4.out _).mono ?_); rintro e w1 ⟨rfl, hb1⟩; replace R7 := jb.mk (R7.out.below hb1); replace N7 := jb.mk (Kd.S_below N7.out hb1); replace HB := jb.mk (HB.out.step hb1); (try clear c0 c1 c2 c3); obtain ⟨c0, c1, c2, c3⟩ := HB.out.2; clear hb1)
      | (go_at_call 10; (with_reducible refine (H5.out _).mono ?_); rintro e w1 ⟨rfl, hb1⟩; replace R7 := jb.mk (R7.out.below hb1); replace N7 := jb.mk (Kd.S_below N7.out hb1); replace HB := jb.mk (HB.out.step hb1); (try clear c0 c1 c2 c3); obtain ⟨c0, c1, c2, c3⟩ := HB.out.2; clear hb1)
      | (go_at_call 11; (with_reducible refine (H6.out _).mono ?_); rintro e wA ⟨rfl, hb1⟩; replace R7 := jb.mk (R7.out.below hb1); replace N7 := jb.mk (Kd.S_below N7.out hb1); replace HB := jb.mk (HB.out.step hb1); (try clear c0 c1 c2 c3); obtain ⟨c0, c1, c2, c3⟩ := HB.out.2; clear hb1))
  go_cut [188] from 138 to 188 (fun v188 wc => v188 = .bool false ∧ B2 v0 p s p' s' wc ∧ Below wA.heap.size wA wc)
  case first =>
    as_aux_lemma =>
    have HCB := jb.mk (Below.refl wA.heap.size wA)
    cases ok
    · go_wp2_with (first
        | (go_at_call 12; (with_reducible refine (laws_yRows.calls K _ _ rs _ _ rs true _ (Kd.R_reads' R7.out.R).2.2 (Kd.R_reads' R7.out.R).2.1 (Kd.S_reads' N7.out).2.2 (Kd.S_reads' N7.out).2.1 H7.out).mono ?_); rintro e w1 ⟨rfl, hd⟩; have hb1 := (by first | exact hd.below | exact hd : Below _ _ w1); clear hd; replace HCB := jb.mk (HCB.out.trans (hb1.mono HCB.out.size)); replace HB := jb.mk (HB.out.step hb1); (try clear c0 c1 c2 c3); obtain ⟨c0, c1, c2, c3⟩ := HB.out.2; clear hb1))
      go_meet
      exact ⟨rfl, HB.out, HCB.out⟩
    · obtain rfl := F0.out rfl
      go_wp2_with (first
        | (go_at_call 12; (with_reducible refine (laws_yRows.calls K _ _ rs _ _ rs true _ (Kd.R_reads' R7.out.R).2.2 (Kd.R_reads' R7.out.R).2.1 (Kd.S_reads' N7.out).2.2 (Kd.S_reads' N7.out).2.1 H7.out).mono ?_); rintro e w1 ⟨rfl, hd⟩; have hb1 := (by first | exact hd.below | exact hd : Below _ _ w1); clear hd; replace HCB := jb.mk (HCB.out.trans (hb1.mono HCB.out.size)); replace HB := jb.mk (HB.out.step hb1); (try clear c0 c1 c2 c3); obtain ⟨c0, c1, c2, c3⟩ := HB.out.2; clear hb1))
      go_meet
      exact ⟨rfl, HB.out, HCB.out⟩
  case rest =>
  as_aux_lemma =>
  obtain ⟨rfl, hcut, hcb⟩ := hcut
  have R7 := jb.mk (R7.out.below hcb)
  clear HB H1 H2 H3 H4 H5 H6 H7 N7 hcb
  have HB := jb.mk hcut
  obtain ⟨c0, c1, c2, c3⟩ := hcut.2
  obtain ⟨wC, hwC⟩ : ∃ wC, wC = wc := ⟨_, rfl⟩
  rw [← hwC] at R7
  have HCB := jb.mk (show Below wC.heap.size wC wc by rw [hwC]; exact Below.refl _ _)
  clear hcut hwC
  go_upto_if 189 with fail
  go_cut [] from 189 to 189 (fun wd => B2 v0 p s p' s' wd ∧ Below wC.heap.size wC wd)
  case first =>
    as_aux_lemma =>
    cases one
    · go_wp2_with fail
      go_meet
      exact ⟨HB.out, HCB.out⟩
    · obtain ⟨y1, y2, y3, y4⟩ := F1.out rfl
      have Y1 := jb.mk y1
      have e1 : decide (num < 0) = false := decide_eq_false (by omega)
      have e2 : ¬ wrap64 (a * den) = 0 := by omega
      have e3 : (Int.tmod (wrap64 (wrap64 (wrap64 (p - p') * den) + wrap64 (wrap64 (s - s') * num))) (wrap64 (a * den)) != 0) = false := by rw [y4]; rfl
      clear y1 y2 y3 F1 F2
      go_wp2_with (go_at_call 13; (with_reducible refine (laws_yLow.calls K _ _ true _ Y1.out).mono ?_); rintro e w1 ⟨rfl, hd⟩; have hb1 := hd.below; clear hd; replace HCB := jb.mk (HCB.out.trans (hb1.mono HCB.out.size)); replace HB := jb.mk (HB.out.step hb1); (try clear c0 c1 c2 c3); obtain ⟨c0, c1, c2, c3⟩ := HB.out.2; clear hb1)
      go_meet
      exact ⟨HB.out, HCB.out⟩
  case rest =>
  as_aux_lemma =>
  obtain ⟨hcut, hcb⟩ := hcut
  clear HB HCB F1
  have HB := jb.mk hcut
  have HCB := jb.mk hcb
  obtain ⟨c0, c1, c2, c3⟩ := hcut.2
  clear hcut hcb
  go_upto_if 221 with fail
  go_cut [] from 221 to 221 (fun wd => B2 v0 p s p' s' wd)
  case first =>
    as_aux_lemma =>
    cases ok
    · go_wp2_with fail
      go_meet
      exact HB.out
    · obtain ⟨y1, y2, y2', y3, ⟨sp, hsp, q1, q2⟩, hrow, fd, g0, g1, hfd⟩ := F2.out rfl
      have Y1 := jb.mk y1
      have HROW := jb.mk hrow
      have HFD := jb.mk hfd
      have G0 := jb.mk g0
      have G1 := jb.mk g1
      have HSP := jb.mk hsp
      clear y1 hrow hfd g0 g1 hsp F2
      go_upto_if 228 with fail
      go_cut [25] from 228 to 228 (fun v25 wd => v25 = .int .i64 sp ∧ B2 v0 p s p' s' wd ∧ Below wC.heap.size wC wd)
      case first =>
        as_aux_lemma =>
        by_cases hz : wrap64 (s - s') < 0
        · have e1 : decide (wrap64 (s - s') < 0) = true := decide_eq_true hz
          have e2 := HSP.out
          rw [if_pos hz] at e2
          go_wp2_with fail
          go_meet
          exact ⟨by rw [e2], HB.out, HCB.out⟩
        · have e1 : decide (wrap64 (s - s') < 0) = false := decide_eq_false hz
          have e2 := HSP.out
          rw [if_neg hz] at e2
          go_wp2_with fail
          go_meet
          exact ⟨by rw [e2], HB.out, HCB.out⟩
      case rest =>
      as_aux_lemma =>
      obtain ⟨rfl, hcut, hcb⟩ := hcut
      clear HB HCB HSP
      have HB := jb.mk hcut
      have HCB := jb.mk hcb
      obtain ⟨c0, c1, c2, c3⟩ := hcut.2
      clear hcut hcb
      have e1 : (wrap64 (gap * sp) != wrap64 (a * part)) = false := by rw [q1]; simp
      have e2 : decide ((rs.length : Int) < 1) = false := decide_eq_false (by omega)
      have e2' : ¬ (rs.length : Int) = 0 := by omega
      have e3 : (Int.tmod sp (rs.length : Int) != 0) = false := by rw [q2]; rfl
      have e4 : decide (wrap64 (num * part) ≥ wrap64 (gap * den)) = false := decide_eq_false (by omega)
      have e5 : decide (wrap64 (gap * den) ≤ wrap64 (num * part)) = false := decide_eq_false (by omega)
      go_upto_if 264 with (go_at_call 13; (with_reducible refine (laws_yLow.calls K _ _ true _ Y1.out).mono ?_); rintro e w1 ⟨rfl, hd⟩; have hb1 := hd.below; clear hd; replace HCB := jb.mk (HCB.out.trans (hb1.mono HCB.out.size)); replace HB := jb.mk (HB.out.step hb1); (try clear c0 c1 c2 c3); obtain ⟨c0, c1, c2, c3⟩ := HB.out.2; clear hb1)
      clear e1 e2 e2' e3 e4 e5 q1 q2 y3
      go_wp2_with fail
      go_loopg [267] rs.length (fun gg vi wr => ∃ i : Int, vi = .int .i64 i ∧ 0 ≤ i ∧ i ≤ rs.length ∧ (rs.length - i).toNat ≤ gg ∧ jb (B2 v0 p s p' s' wr) ∧ jb (Below wC.heap.size wC wr))
      case atStart => exact ⟨0, by go_num, by omega, by omega, by omega, HB, HCB⟩
      case round =>
        clear HB HCB c0 c1 c2 c3
        obtain ⟨i, rfl, hi0, hin, hgg, HB, HCB⟩ := hrel
        by_cases hlt : i < (rs.length : Int)
        · as_aux_lemma =>
          obtain ⟨r0, r1, ra, rb, ly, t0, t1, qp⟩ := HROW.out i.toNat (by omega)
          obtain ⟨ad, g, eA, hc⟩ := R7.out.row i.toNat (by omega)
          subst eA
          rw [ra, rb] at hc
          obtain ⟨k2, k0, k1⟩ := hc _ HCB.out
          have LY := jb.mk ly
          have QP := jb.mk qp
          have wadd : wrap64 (i + 1) = i + 1 := by unfold wrap64; omega
          have wadd' : IntKind.i64.wrap (i + 1) = i + 1 := by rw [IntKind.wrap_i64]; omega
          have d2 : decide (r0 < 0) = false := decide_eq_false (by omega)
          have d3 : decide (r0 ≥ wrap64 (a * r1)) = false := decide_eq_false (by omega)
          have d4 : decide (wrap64 (a * r1) ≤ r0) = false := decide_eq_false (by omega)
          clear ly qp ra rb t0 t1 hc HROW HFD
          by_cases h0 : 0 < i
          · have d0 : decide (i > 0) = true := decide_eq_true (by omega)
            have d1 : decide (0 < i) = true := decide_eq_true (by omega)
            obtain ⟨z0, z1, za, zb, zz⟩ := QP.out (by omega)
            obtain ⟨ad', g', eA, hc'⟩ := R7.out.row (i.toNat - 1) (by omega)
            cases eA
            rw [za, zb] at hc'
            have p0 : 0 ≤ i - 1 := by omega
            have p1 : i - 1 < (rs.length : Int) := by omega
            have wsub : wrap64 (i - 1) = i - 1 := by unfold wrap64; omega
            have wsub' : IntKind.i64.wrap (i - 1) = i - 1 := by rw [IntKind.wrap_i64]; omega
            obtain ⟨m3, m0, m1⟩ := hc' _ HCB.out
            have m4 := m3
            rw [show i.toNat - 1 = (i - 1).toNat by omega] at m4
            have q1 : decide (wrap64 (z0 * r1) ≥ wrap64 (r0 * z1)) = false := decide_eq_false (by omega)
            have q2 : decide (wrap64 (r0 * z1) ≤ wrap64 (z0 * r1)) = false := decide_eq_false (by omega)
            clear za zb zz hc' QP h0
            go_wp2_with fail
            go_quiet ((go_at_call 13; exact Calls.quiet_of (yLq K _ _ LY.out _)))
            go_wp2_with fail
            go_roundg (rs.length - (i + 1)).toNat
            case measure => omega
            case rel => exact ⟨i + 1, by go_num, by omega, by omega, by omega, by first | exact HB | exact ⟨HB.out.step (qa (Below.refl _ _) _)⟩, by first | exact HCB | exact ⟨qa HCB.out _⟩⟩
          · have d0 : decide (i > 0) = false := decide_eq_false (by omega)
            have d1 : decide (0 < i) = false := decide_eq_false (by omega)
            clear QP h0
            go_wp2_with fail
            go_quiet ((go_at_call 13; exact Calls.quiet_of (yLq K _ _ LY.out _)))
            go_wp2_with fail
            go_roundg (rs.length - (i + 1)).toNat
            case measure => omega
            case rel => exact ⟨i + 1, by go_num, by omega, by omega, by omega, by first | exact HB | exact ⟨HB.out.step (qa (Below.refl _ _) _)⟩, by first | exact HCB | exact ⟨qa HCB.out _⟩⟩
        · as_aux_lemma =>
          have e : i = (rs.length : Int) := by omega
          subst e
          clear HROW
          go_wp2_with fail
          go_loopg [334, 28] rs.length (fun gg vj v28 wr => ∃ j : Int, vj = .int .i64 j ∧ 0 ≤ j ∧ j ≤ rs.length ∧ (rs.length - j).toNat ≤ gg ∧ v28 = .bool (fd j.toNat) ∧ jb (B2 v0 p s p' s' wr) ∧ jb (Below wC.heap.size wC wr))
          case atStart => exact ⟨0, by go_num, by omega, by omega, by omega, by rw [show (0 : Int).toNat = 0 from rfl, G0.out], HB, HCB⟩
          case round =>
            clear HB HCB
            obtain ⟨j, rfl, hj0, hjn, hgg2, rfl, HB, HCB⟩ := hrel
            by_cases hlt2 : j < (rs.length : Int)
            · as_aux_lemma =>
              obtain ⟨r0, r1, ra, rb, hM, hf⟩ := HFD.out j.toNat (by omega)
              obtain ⟨ad, g, eA, hc⟩ := R7.out.row j.toNat (by omega)
              subst eA
              rw [ra, rb] at hc
              obtain ⟨k2, k0, k1⟩ := hc _ HCB.out
              obtain ⟨c0, c1, c2, c3⟩ := HB.out.2
              have hN : (j + 1).toNat = j.toNat + 1 := by omega
              have wadd : wrap64 (j + 1) = j + 1 := by unfold wrap64; omega
              have wadd' : IntKind.i64.wrap (j + 1) = j + 1 := by rw [IntKind.wrap_i64]; omega
              have hne : ¬ wrap64 (wrap64 (a * den) * r1) = 0 := by omega
              have HN := jb.mk hN
              have HF := jb.mk hf
              clear hf hN hc ra rb HFD G0 G1
              cases hfj : fd j.toNat
              · rw [hfj] at HF
                obtain ⟨b, hb⟩ : ∃ b, decide (Int.tmod (wrap64 (wrap64 (wrap64 (wrap64 (p * den) + wrap64 (s * num)) * r1) - wrap64 (r0 * den))) (wrap64 (wrap64 (a * den) * r1)) = 0) = b := ⟨_, rfl⟩
                have hb2 : (Int.tmod (wrap64 (wrap64 (wrap64 (wrap64 (p * den) + wrap64 (s * num)) * r1) - wrap64 (r0 * den))) (wrap64 (wrap64 (a * den) * r1)) == 0) = b := by rw [← hb]; rfl
                rw [hb] at HF
                have HFB := jb.mk (show fd (j + 1).toNat = b by rw [HN.out, HF.out]; simp)
                clear hfj HF hb
                go_wp2_with fail
                go_quiet (fail)
                go_wp2_with fail
                go_roundg (rs.length - (j + 1)).toNat
                case measure => omega
                case rel => exact ⟨j + 1, by go_num, by omega, by omega, by omega, by rw [HFB.out], by first | exact HB | exact ⟨HB.out.step (qa (Below.refl _ _) _)⟩, by first | exact HCB | exact ⟨qa HCB.out _⟩⟩
              · rw [hfj] at HF
                have HFB := jb.mk (show fd (j + 1).toNat = true by rw [HN.out, HF.out]; simp)
                clear hfj HF
                go_wp2_with fail
                go_quiet (fail)
                go_wp2_with fail
                go_roundg (rs.length - (j + 1)).toNat
                case measure => omega
                case rel => exact ⟨j + 1, by go_num, by omega, by omega, by omega, by rw [HFB.out], by first | exact HB | exact ⟨HB.out.step (qa (Below.refl _ _) _)⟩, by first | exact HCB | exact ⟨qa HCB.out _⟩⟩
            · as_aux_lemma =>
              have e : j = (rs.length : Int) := by omega
              subst e
              have g1 := G1.out
              rw [show ((rs.length : Int)).toNat = rs.length by omega, g1]
              go_wp2_with fail
              go_meet
              exact HB.out
  case rest =>
  as_aux_lemma =>
  have HWc := jb.mk (HW0.out.trans (hcut.1.mono HW0.out.size))
  clear HB HCB hcut F2 F0 HW0 c0 c1 c2 c3 R7
  go_wp2_with fail
  (with_reducible refine (HD2.out _ HWc.out).mono ?_)
  rintro e v1 ⟨b, q, z, q', z', t, rfl, hb1⟩
  have HW1 := jb.mk (HWc.out.trans (hb1.mono HWc.out.size))
  obtain ⟨count, five, h1, h2, f1⟩ := HCO.out b q z q' z' t
  have H1 := jb.mk h1
  have H2 := jb.mk h2
  have F1 := jb.mk f1
  clear h1 h2 f1 hb1 HWc HCO HD2
  have HB := jb.mk (B2.start v1 q z q' z' 25)
  obtain ⟨c0, c1, c2, c3⟩ := HB.out.2
  go_upto_region 39 with (first
      | (go_at_call 15; (with_reducible refine (H1.out _).mono ?_); rintro e w1 ⟨rfl, hb1⟩; replace HB := jb.mk (HB.out.step hb1); (try clear c0 c1 c2 c3); obtain ⟨c0, c1, c2, c3⟩ := HB.out.2; clear hb1)
      | (go_at_call 16; (with_reducible refine (H2.out _).mono ?_); rintro e w1 ⟨rfl, hb1⟩; replace HB := jb.mk (HB.out.step hb1); (try clear c0 c1 c2 c3); obtain ⟨c0, c1, c2, c3⟩ := HB.out.2; clear hb1))
  go_wp2_with fail
  (with_reducible refine (HD3.out _ (HW1.out.trans (HB.out.1.mono HW1.out.size))).mono ?_)
  rintro e w1 ⟨l, QA, cA, m, n, rfl, hlc, hl, hl2, hb1⟩
  obtain ⟨KW, od, seven, g1, g2, g3, g4⟩ := HWO.out l m n hl2
  have L1 := jb.mk hl
  have LC := jb.mk hlc
  have G1 := jb.mk g1
  have G2 := jb.mk g2
  have G3 := jb.mk g3
  have F2 := jb.mk g4
  have LL := jb.mk hl2
  clear hl hlc hl2 g1 g2 g3 g4 H1 H2 HWO HD3
  replace HB := jb.mk (HB.out.step hb1); (try clear c0 c1 c2 c3); obtain ⟨c0, c1, c2, c3⟩ := HB.out.2; clear hb1
  go_upto_region 42 with (first
      | (go_at_call 18; (with_reducible refine (impl_WalkersAt.calls _ _ l m n od seven _ L1.out LC.out G1.out).mono ?_); rintro e w1 ⟨vr, rfl, hO, hb1⟩; obtain ⟨AO1, nO1, er⟩ := Kd.R_slice hO; subst er; replace L1 := jb.mk (Kd.C_below L1.out hb1); have O1 := jb.mk hO; clear hO; replace HB := jb.mk (HB.out.step hb1); (try clear c0 c1 c2 c3); obtain ⟨c0, c1, c2, c3⟩ := HB.out.2; clear hb1)
      | (go_at_call 19; (with_reducible refine (spec_WalkersAt.calls KW _ _ l m n od seven _ L1.out LC.out G2.out).mono ?_); rintro e w1 ⟨vr, rfl, hO, hb1⟩; obtain ⟨AO2, nO2, er⟩ := Kd.R_slice hO; subst er; replace L1 := jb.mk (Kd.C_below L1.out hb1); replace O1 := jb.mk (Kd.R_below O1.out hb1); have O2 := jb.mk hO; clear hO; replace HB := jb.mk (HB.out.step hb1); (try clear c0 c1 c2 c3); obtain ⟨c0, c1, c2, c3⟩ := HB.out.2; clear hb1))
  go_wp2_with fail
  (with_reducible refine (HD4.out _ (HW1.out.trans (HB.out.1.mono HW1.out.size))).mono ?_)
  rintro e w1 ⟨g, QG, cG, rfl, hgc, hg, hg2, hb1⟩
  obtain ⟨KG, ld, la, nine, g1, g2, g3, g4, g5, g6, g7⟩ := HGO.out g hg2
  replace L1 := jb.mk (Kd.C_below L1.out hb1); replace O1 := jb.mk (Kd.R_below O1.out hb1); replace O2 := jb.mk (Kd.R_below O2.out hb1); 
  have L2 := jb.mk hg
  have GC := jb.mk hgc
  have GL := jb.mk hg2
  have J1 := jb.mk g1
  have J2 := jb.mk g2
  have J3 := jb.mk g3
  have J4 := jb.mk g4
  have J5 := jb.mk g5
  have J6 := jb.mk g6
  have F3 := jb.mk g7
  clear hg hgc hg2 g1 g2 g3 g4 g5 g6 g7 G1 G2 HGO HD4
  replace HB := jb.mk (HB.out.step hb1); (try clear c0 c1 c2 c3); obtain ⟨c0, c1, c2, c3⟩ := HB.out.2; clear hb1
  go_upto_region 47 with (first
      | (go_at_call 21; (with_reducible refine (impl_LeadersOf.calls KG _ _ g ld nine _ L2.out GC.out J1.out).mono ?_); rintro e w1 ⟨vr, rfl, hO, hb1⟩; obtain ⟨AD1, nD1, er⟩ := Kd.R_slice hO; subst er; replace L1 := jb.mk (Kd.C_below L1.out hb1); replace O1 := jb.mk (Kd.R_below O1.out hb1); replace O2 := jb.mk (Kd.R_below O2.out hb1); replace L2 := jb.mk (Kd.C_below L2.out hb1); have D1 := jb.mk hO; clear hO; replace HB := jb.mk (HB.out.step hb1); (try clear c0 c1 c2 c3); obtain ⟨c0, c1, c2, c3⟩ := HB.out.2; clear hb1)
      | (go_at_call 22; (with_reducible refine (spec_LeadersOf.calls KG _ _ g ld nine _ L2.out GC.out J2.out).mono ?_); rintro e w1 ⟨vr, rfl, hO, hb1⟩; obtain ⟨AD2, nD2, er⟩ := Kd.R_slice hO; subst er; replace L1 := jb.mk (Kd.C_below L1.out hb1); replace O1 := jb.mk (Kd.R_below O1.out hb1); replace O2 := jb.mk (Kd.R_below O2.out hb1); replace L2 := jb.mk (Kd.C_below L2.out hb1); replace D1 := jb.mk (Kd.R_below D1.out hb1); have D2 := jb.mk hO; clear hO; replace HB := jb.mk (HB.out.step hb1); (try clear c0 c1 c2 c3); obtain ⟨c0, c1, c2, c3⟩ := HB.out.2; clear hb1)
      | (go_at_call 23; (with_reducible refine (impl_LastOrder.calls _ _ g la nine _ L2.out GC.out J4.out).mono ?_); rintro e w1 ⟨vr, rfl, hO, hb1⟩; obtain ⟨AE1, nE1, er⟩ := Kd.R_slice hO; subst er; replace L1 := jb.mk (Kd.C_below L1.out hb1); replace O1 := jb.mk (Kd.R_below O1.out hb1); replace O2 := jb.mk (Kd.R_below O2.out hb1); replace L2 := jb.mk (Kd.C_below L2.out hb1); replace D1 := jb.mk (Kd.R_below D1.out hb1); replace D2 := jb.mk (Kd.R_below D2.out hb1); have E1 := jb.mk hO; clear hO; replace HB := jb.mk (HB.out.step hb1); (try clear c0 c1 c2 c3); obtain ⟨c0, c1, c2, c3⟩ := HB.out.2; clear hb1)
      | (go_at_call 24; (with_reducible refine (spec_LastOrder.calls KG _ _ g la nine _ L2.out GC.out J5.out).mono ?_); rintro e w1 ⟨vr, rfl, hO, hb1⟩; obtain ⟨AE2, nE2, er⟩ := Kd.R_slice hO; subst er; replace L1 := jb.mk (Kd.C_below L1.out hb1); replace O1 := jb.mk (Kd.R_below O1.out hb1); replace O2 := jb.mk (Kd.R_below O2.out hb1); replace L2 := jb.mk (Kd.C_below L2.out hb1); replace D1 := jb.mk (Kd.R_below D1.out hb1); replace D2 := jb.mk (Kd.R_below D2.out hb1); replace E1 := jb.mk (Kd.R_below E1.out hb1); have E2 := jb.mk hO; clear hO; replace HB := jb.mk (HB.out.step hb1); (try clear c0 c1 c2 c3); obtain ⟨c0, c1, c2, c3⟩ := HB.out.2; clear hb1))
  go_wp2_with fail
  (with_reducible refine (HD5.out _ (HW1.out.trans (HB.out.1.mono HW1.out.size))).mono ?_)
  rintro e w1 ⟨ring, many, QM, cM, rfl, hmc, hm, hm2, hb1⟩
  obtain ⟨KM, top, low, ons, g1, g2, g3⟩ := HAO.out ring many hm2
  replace L1 := jb.mk (Kd.C_below L1.out hb1); replace O1 := jb.mk (Kd.R_below O1.out hb1); replace O2 := jb.mk (Kd.R_below O2.out hb1); replace L2 := jb.mk (Kd.C_below L2.out hb1); replace D1 := jb.mk (Kd.R_below D1.out hb1); replace D2 := jb.mk (Kd.R_below D2.out hb1); replace E1 := jb.mk (Kd.R_below E1.out hb1); replace E2 := jb.mk (Kd.R_below E2.out hb1); 
  have L3 := jb.mk hm
  have MC := jb.mk hmc
  have ML := jb.mk hm2
  have M1 := jb.mk g1
  have M2 := jb.mk g2
  have F4 := jb.mk g3
  clear hm hmc hm2 g1 g2 g3 J1 J2 J4 J5 HAO HD5
  replace HB := jb.mk (HB.out.step hb1); (try clear c0 c1 c2 c3); obtain ⟨c0, c1, c2, c3⟩ := HB.out.2; clear hb1
  go_upto_region 50 with (first
      | (go_at_call 26; (with_reducible refine (impl_AllAtStart.calls KM ring _ _ many top low ons _ L3.out MC.out M1.out).mono ?_); rintro e w1 ⟨rfl, hb1⟩; replace L1 := jb.mk (Kd.C_below L1.out hb1); replace O1 := jb.mk (Kd.R_below O1.out hb1); replace O2 := jb.mk (Kd.R_below O2.out hb1); replace L2 := jb.mk (Kd.C_below L2.out hb1); replace D1 := jb.mk (Kd.R_below D1.out hb1); replace D2 := jb.mk (Kd.R_below D2.out hb1); replace E1 := jb.mk (Kd.R_below E1.out hb1); replace E2 := jb.mk (Kd.R_below E2.out hb1); replace L3 := jb.mk (Kd.C_below L3.out hb1); replace HB := jb.mk (HB.out.step hb1); (try clear c0 c1 c2 c3); obtain ⟨c0, c1, c2, c3⟩ := HB.out.2; clear hb1)
      | (go_at_call 27; (with_reducible refine (spec_AllAtStart.calls KM ring _ _ many top low ons _ L3.out MC.out M2.out).mono ?_); rintro e wY ⟨rfl, hb1⟩; replace L1 := jb.mk (Kd.C_below L1.out hb1); replace O1 := jb.mk (Kd.R_below O1.out hb1); replace O2 := jb.mk (Kd.R_below O2.out hb1); replace L2 := jb.mk (Kd.C_below L2.out hb1); replace D1 := jb.mk (Kd.R_below D1.out hb1); replace D2 := jb.mk (Kd.R_below D2.out hb1); replace E1 := jb.mk (Kd.R_below E1.out hb1); replace E2 := jb.mk (Kd.R_below E2.out hb1); replace L3 := jb.mk (Kd.C_below L3.out hb1); replace HB := jb.mk (HB.out.step hb1); (try clear c0 c1 c2 c3); obtain ⟨c0, c1, c2, c3⟩ := HB.out.2; clear hb1))
  have HWY := jb.mk (HW1.out.trans (HB.out.1.mono HW1.out.size))
  have HCB := jb.mk (Below.refl wY.heap.size wY)
  clear HW1 M1 M2
  go_cut [516] from 456 to 516 (fun v516 wc => v516 = .bool false ∧ B2 v1 q z q' z' wc ∧ Below wY.heap.size wY wc)
  case first =>
    as_aux_lemma =>
    go_wp2_with (first
      | (go_at_call 28; (with_reducible refine (laws_ySame.calls KW _ _ od _ _ od true _ (Kd.C_below (Kd.R_reads' O1.out).2.2 HCB.out) (Kd.R_reads' O1.out).2.1 (Kd.C_below (Kd.R_reads' O2.out).2.2 HCB.out) (Kd.R_reads' O2.out).2.1 G3.out).mono ?_); rintro e w1 ⟨rfl, hd⟩; have hb1 := hd.below; clear hd; replace HCB := jb.mk (HCB.out.trans (hb1.mono HCB.out.size)); replace HB := jb.mk (HB.out.step hb1); (try clear c0 c1 c2 c3); obtain ⟨c0, c1, c2, c3⟩ := HB.out.2; clear hb1)
      | (go_at_call 28; (with_reducible refine (laws_ySame.calls KG _ _ ld _ _ ld true _ (Kd.C_below (Kd.R_reads' D1.out).2.2 HCB.out) (Kd.R_reads' D1.out).2.1 (Kd.C_below (Kd.R_reads' D2.out).2.2 HCB.out) (Kd.R_reads' D2.out).2.1 J3.out).mono ?_); rintro e w1 ⟨rfl, hd⟩; have hb1 := hd.below; clear hd; replace HCB := jb.mk (HCB.out.trans (hb1.mono HCB.out.size)); replace HB := jb.mk (HB.out.step hb1); (try clear c0 c1 c2 c3); obtain ⟨c0, c1, c2, c3⟩ := HB.out.2; clear hb1)
      | (go_at_call 28; (with_reducible refine (laws_ySame.calls KG _ _ la _ _ la true _ (Kd.C_below (Kd.R_reads' E1.out).2.2 HCB.out) (Kd.R_reads' E1.out).2.1 (Kd.C_below (Kd.R_reads' E2.out).2.2 HCB.out) (Kd.R_reads' E2.out).2.1 J6.out).mono ?_); rintro e w1 ⟨rfl, hd⟩; have hb1 := hd.below; clear hd; replace HCB := jb.mk (HCB.out.trans (hb1.mono HCB.out.size)); replace HB := jb.mk (HB.out.step hb1); (try clear c0 c1 c2 c3); obtain ⟨c0, c1, c2, c3⟩ := HB.out.2; clear hb1))
    go_meet
    exact ⟨rfl, HB.out, HCB.out⟩
  case rest =>
  as_aux_lemma =>
  obtain ⟨rfl, hcut, hcb⟩ := hcut
  clear HB HCB O2 D2 E2 G3 J3 J6
  have HB := jb.mk hcut
  have HCB := jb.mk hcb
  obtain ⟨c0, c1, c2, c3⟩ := hcut.2
  clear hcut hcb
  go_upto_if 517 with fail
  go_cut [] from 517 to 517 (fun wd => Below wY.heap.size wY wd)
  case first =>
    as_aux_lemma =>
    cases five
    · go_wp2_with fail
      go_meet
      exact HCB.out
    · obtain ⟨num, den, gap, part, a1, a2, n0, n1, n2⟩ := F1.out rfl
      have H1 := jb.mk a1
      have H2 := jb.mk a2
      have e1 : decide (count < 0) = false := decide_eq_false (by omega)
      clear a1 a2 F2 F3 F4 L1 L2 L3 O1 D1 E1
      by_cases hc : count = 0
      · have e2 : (count == 0) = true := beq_iff_eq.mpr hc
        have e3 : decide (num > wrap64 (t * den)) = true := decide_eq_true (n1.mp hc)
        have e4 : decide (wrap64 (t * den) < num) = true := decide_eq_true (n1.mp hc)
        have e5 : decide (count > 0) = false := decide_eq_false (by omega)
        have e6 : decide (0 < count) = false := decide_eq_false (by omega)
        clear n0 n1 n2 hc
        go_wp2_with (first
          | (go_at_call 8; (with_reducible refine (H1.out _).mono ?_); rintro e w1 ⟨rfl, hb1⟩; replace HCB := jb.mk (HCB.out.trans (hb1.mono HCB.out.size)); replace HB := jb.mk (HB.out.step hb1); (try clear c0 c1 c2 c3); obtain ⟨c0, c1, c2, c3⟩ := HB.out.2; clear hb1)
          | (go_at_call 10; (with_reducible refine (H2.out _).mono ?_); rintro e w1 ⟨rfl, hb1⟩; replace HCB := jb.mk (HCB.out.trans (hb1.mono HCB.out.size)); replace HB := jb.mk (HB.out.step hb1); (try clear c0 c1 c2 c3); obtain ⟨c0, c1, c2, c3⟩ := HB.out.2; clear hb1))
        go_meet
        exact HCB.out
      · have e2 : (count == 0) = false := beq_eq_false_iff_ne.mpr hc
        have n3 : ¬ wrap64 (t * den) < num := fun h => hc (n1.mpr h)
        have e3 : decide (num > wrap64 (t * den)) = false := decide_eq_false n3
        have e4 : decide (wrap64 (t * den) < num) = false := decide_eq_false n3
        have e5 : decide (count > 0) = true := decide_eq_true (by omega)
        have e6 : decide (0 < count) = true := decide_eq_true (by omega)
        obtain ⟨k1, k2⟩ := n2 (by omega)
        have e7 : decide (wrap64 (wrap64 (num * part) + wrap64 (wrap64 (wrap64 (count - 1) * gap) * den)) > wrap64 (wrap64 (t * den) * part)) = false := decide_eq_false (by omega)
        have e8 : decide (wrap64 (wrap64 (t * den) * part) < wrap64 (wrap64 (num * part) + wrap64 (wrap64 (wrap64 (count - 1) * gap) * den))) = false := decide_eq_false (by omega)
        have e9 : decide (wrap64 (wrap64 (num * part) + wrap64 (wrap64 (count * gap) * den)) ≤ wrap64 (wrap64 (t * den) * part)) = false := decide_eq_false (by omega)
        clear n0 n1 n2 n3 k1 k2 hc
        go_wp2_with (first
          | (go_at_call 8; (with_reducible refine (H1.out _).mono ?_); rintro e w1 ⟨rfl, hb1⟩; replace HCB := jb.mk (HCB.out.trans (hb1.mono HCB.out.size)); replace HB := jb.mk (HB.out.step hb1); (try clear c0 c1 c2 c3); obtain ⟨c0, c1, c2, c3⟩ := HB.out.2; clear hb1)
          | (go_at_call 10; (with_reducible refine (H2.out _).mono ?_); rintro e w1 ⟨rfl, hb1⟩; replace HCB := jb.mk (HCB.out.trans (hb1.mono HCB.out.size)); replace HB := jb.mk (HB.out.step hb1); (try clear c0 c1 c2 c3); obtain ⟨c0, c1, c2, c3⟩ := HB.out.2; clear hb1))
        go_meet
        exact HCB.out
  case rest =>
  as_aux_lemma =>
  clear HB HCB F1 c0 c1 c2 c3
  have HCB := jb.mk hcut
  clear hcut
  go_upto_if 591 with fail
  go_cut [] from 591 to 591 (fun wd => Below wY.heap.size wY wd)
  case first =>
    as_aux_lemma =>
    cases seven
    · go_wp2_with fail
      go_meet
      exact HCB.out
    · obtain ⟨y1, y2, y3, y4⟩ := F2.out rfl
      have Y1 := jb.mk y1
      have Y3 := jb.mk y3
      have Y4 := jb.mk y4
      have HO := jb.mk (Kd.R_reads' O1.out).2.2
      have HOC := jb.mk (Kd.R_reads' O1.out).2.1
      clear y1 y3 y4 F2 F3 F4 L2 L3 D1 E1 O1
      go_wp2_with (go_at_call 29; (with_reducible refine (laws_yOnce.calls KW _ _ od _ true _ (Kd.C_below HO.out HCB.out) HOC.out Y1.out).mono ?_); rintro e w1 ⟨rfl, hd⟩; have hb1 := hd.below; clear hd; replace HCB := jb.mk (HCB.out.trans (hb1.mono HCB.out.size)); clear hb1)
      go_loopg [71] (od.length + 1) (fun gg vi wr => ∃ i : Int, vi = .int .i64 i ∧ 1 ≤ i ∧ i ≤ od.length + 1 ∧ (od.length + 1 - i).toNat ≤ gg ∧ jb (Below wY.heap.size wY wr))
      case atStart => exact ⟨1, by go_num, by omega, by omega, by omega, HCB⟩
      case round =>
        clear HCB
        obtain ⟨i, rfl, hi0, hin, hgg, HCB⟩ := hrel
        by_cases hlt : i < (od.length : Int)
        · as_aux_lemma =>
          have x0 := Y3.out (i.toNat - 1) (by omega)
          have x1 := Y3.out i.toNat (by omega)
          obtain ⟨g1, g2⟩ := Y4.out i.toNat (by omega) (by omega)
          obtain ⟨ad, eA, hx⟩ := iAtR HO.out (i.toNat - 1) (by omega)
          subst eA
          obtain ⟨ad', eA, hy⟩ := iAtR HO.out i.toNat (by omega)
          cases eA
          generalize od.getD (i.toNat - 1) 0 = x at *
          generalize od.getD i.toNat 0 = y at *
          obtain ⟨al, eL, hlx⟩ := wAtR L1.out x.toNat (by omega)
          subst eL
          obtain ⟨al', eL, hly⟩ := wAtR L1.out y.toNat (by omega)
          cases eL
          unfold plW at g1 g2
          generalize (l.getD x.toNat z25).f0 = u0 at *
          generalize (l.getD x.toNat z25).f1 = u1 at *
          generalize (l.getD y.toNat z25).f0 = v0' at *
          generalize (l.getD y.toNat z25).f1 = v1' at *
          obtain ⟨xx0, xx1⟩ := x0
          obtain ⟨yy0, yy1⟩ := x1
          have p0 : 0 ≤ i - 1 := by omega
          have p1 : i - 1 < (od.length : Int) := by omega
          have p2 : 0 ≤ i := by omega
          have wsub : wrap64 (i - 1) = i - 1 := by unfold wrap64; omega
          have wsub' : IntKind.i64.wrap (i - 1) = i - 1 := by rw [IntKind.wrap_i64]; omega
          have wadd : wrap64 (i + 1) = i + 1 := by unfold wrap64; omega
          have wadd' : IntKind.i64.wrap (i + 1) = i + 1 := by rw [IntKind.wrap_i64]; omega
          have hx := jb.mk hx
          have hy := jb.mk hy
          have hlx := jb.mk hlx
          have hly := jb.mk hly
          have g2 := jb.mk g2
          have g1 := jb.mk g1
          have HK : jb (∀ W', Below wr.heap.size wr W' → Below wr.heap.size wr W' ∧ W'.cell? (ad.add (i.toNat - 1)) = some (.int .i64 x) ∧ W'.cell? (ad.add i.toNat) = some (.int .i64 y) ∧ W'.cell? (al.add (x.toNat * 2)) = some (.int .i64 u0) ∧ W'.cell? ⟨(al.add (x.toNat * 2)).block, (al.add (x.toNat * 2)).off + 1, none⟩ = some (.int .i64 u1) ∧ W'.cell? (al.add (y.toNat * 2)) = some (.int .i64 v0') ∧ W'.cell? ⟨(al.add (y.toNat * 2)).block, (al.add (y.toNat * 2)).off + 1, none⟩ = some (.int .i64 v1')) := ⟨fun W' hb => by
            have hb2 := HCB.out.trans (hb.mono HCB.out.size)
            have q0 := hx.out _ hb2
            exact ⟨hb, q0, hy.out _ hb2, (hlx.out _ hb2).1, (hlx.out _ hb2).2, (hly.out _ hb2).1, (hly.out _ hb2).2⟩⟩
          clear Y1 Y3 Y4 hx hy hlx hly
          obtain ⟨_, k0, k1, k2, k3, k4, k5⟩ := HK.out _ (Below.refl _ _)
          have HWR := jb.mk (Below.refl wr.heap.size wr)
          go_wp2_with fail
          go_region_held3 (fun w' => Below wr.heap.size wr w' ∧ w'.cell? (ad.add (i.toNat - 1)) = some (.int .i64 x) ∧ w'.cell? (ad.add i.toNat) = some (.int .i64 y) ∧ w'.cell? (al.add (x.toNat * 2)) = some (.int .i64 u0) ∧ w'.cell? ⟨(al.add (x.toNat * 2)).block, (al.add (x.toNat * 2)).off + 1, none⟩ = some (.int .i64 u1) ∧ w'.cell? (al.add (y.toNat * 2)) = some (.int .i64 v0') ∧ w'.cell? ⟨(al.add (y.toNat * 2)).block, (al.add (y.toNat * 2)).off + 1, none⟩ = some (.int .i64 v1'))
            (first | with_reducible assumption | (with_reducible refine HK.out _ ?_; repeat' (first | with_reducible exact Below.refl _ _ | with_reducible exact And.left (by with_reducible assumption) | with_reducible apply qc | with_reducible apply qb | (with_reducible refine Below.setCell ?_ ?_ _) | (simp; done) | omega)))
            (fail)
          all_goals
            have q1 : decide (wrap64 (wrap64 (u0 * n) + wrap64 (u1 * m)) > wrap64 (wrap64 (v0' * n) + wrap64 (v1' * m))) = false := decide_eq_false (by have := g1.out; omega)
            have q2 : decide (wrap64 (wrap64 (v0' * n) + wrap64 (v1' * m)) < wrap64 (wrap64 (u0 * n) + wrap64 (u1 * m))) = false := decide_eq_false (by have := g1.out; omega)
            clear g1 HWR k0 k1 k2 k3 k4 k5
          · have k := (B2.start wr u0 u1 v0' v1' 25).step (qc (Below.refl _ _))
            generalize ((wr.alloc (.cells #[.int .i64 u0, .int .i64 u1] 25)).alloc (.cells #[.int .i64 v0', .int .i64 v1'] 25)).drew = w5 at k ⊢
            obtain ⟨hb5, z0, z1, z2, z3⟩ := k
            have HCB5 := jb.mk (HCB.out.trans (hb5.mono HCB.out.size))
            obtain ⟨_, k0, k1, k2, k3, k4, k5⟩ := HK.out _ hb5
            clear HCB HK hb5
            go_wp2_with fail
            go_quiet (fail)
            go_wp2_with fail
            by_cases he : wrap64 (wrap64 (u0 * n) + wrap64 (u1 * m)) = wrap64 (wrap64 (v0' * n) + wrap64 (v1' * m))
            · have q3 : (wrap64 (wrap64 (u0 * n) + wrap64 (u1 * m)) == wrap64 (wrap64 (v0' * n) + wrap64 (v1' * m))) = true := beq_iff_eq.mpr he
              have q4 := g2.out he
              have q5 : decide (x > y) = false := decide_eq_false (by omega)
              have q6 : decide (y < x) = false := decide_eq_false (by omega)
              clear he q4 g2
              go_quiet (fail)
              go_wp2_with fail
              go_roundg (od.length + 1 - (i + 1)).toNat
              case measure => omega
              case rel => exact ⟨i + 1, by go_num, by omega, by omega, by omega, by first | exact HCB5 | exact ⟨qa HCB5.out _⟩⟩
            · have q3 : (wrap64 (wrap64 (u0 * n) + wrap64 (u1 * m)) == wrap64 (wrap64 (v0' * n) + wrap64 (v1' * m))) = false := beq_eq_false_iff_ne.mpr he
              clear he g2
              go_quiet (fail)
              go_wp2_with fail
              go_roundg (od.length + 1 - (i + 1)).toNat
              case measure => omega
              case rel => exact ⟨i + 1, by go_num, by omega, by omega, by omega, by first | exact HCB5 | exact ⟨qa HCB5.out _⟩⟩
          · have k := (B2.start wr v0' v1' u0 u1 25).step (qc (Below.refl _ _))
            generalize ((wr.alloc (.cells #[.int .i64 v0', .int .i64 v1'] 25)).alloc (.cells #[.int .i64 u0, .int .i64 u1] 25)).drew = w5 at k ⊢
            obtain ⟨hb5, z0, z1, z2, z3⟩ := k
            have HCB5 := jb.mk (HCB.out.trans (hb5.mono HCB.out.size))
            obtain ⟨_, k0, k1, k2, k3, k4, k5⟩ := HK.out _ hb5
            clear HCB HK hb5
            go_wp2_with fail
            go_quiet (fail)
            go_wp2_with fail
            by_cases he : wrap64 (wrap64 (u0 * n) + wrap64 (u1 * m)) = wrap64 (wrap64 (v0' * n) + wrap64 (v1' * m))
            · have q3 : (wrap64 (wrap64 (u0 * n) + wrap64 (u1 * m)) == wrap64 (wrap64 (v0' * n) + wrap64 (v1' * m))) = true := beq_iff_eq.mpr he
              have q4 := g2.out he
              have q5 : decide (x > y) = false := decide_eq_false (by omega)
              have q6 : decide (y < x) = false := decide_eq_false (by omega)
              clear he q4 g2
              go_quiet (fail)
              go_wp2_with fail
              go_roundg (od.length + 1 - (i + 1)).toNat
              case measure => omega
              case rel => exact ⟨i + 1, by go_num, by omega, by omega, by omega, by first | exact HCB5 | exact ⟨qa HCB5.out _⟩⟩
            · have q3 : (wrap64 (wrap64 (u0 * n) + wrap64 (u1 * m)) == wrap64 (wrap64 (v0' * n) + wrap64 (v1' * m))) = false := beq_eq_false_iff_ne.mpr he
              clear he g2
              go_quiet (fail)
              go_wp2_with fail
              go_roundg (od.length + 1 - (i + 1)).toNat
              case measure => omega
              case rel => exact ⟨i + 1, by go_num, by omega, by omega, by omega, by first | exact HCB5 | exact ⟨qa HCB5.out _⟩⟩
        · as_aux_lemma =>
          go_wp2_with fail
          go_meet
          exact HCB.out
  case rest =>
  as_aux_lemma =>
  clear HCB F2 O1 L1
  have HCB := jb.mk hcut
  clear hcut
  go_upto_if 656 with fail
  go_cut [] from 656 to 656 (fun wd => Below wY.heap.size wY wd)
  case first =>
    as_aux_lemma =>
    cases nine
    · go_wp2_with fail
      go_meet
      exact HCB.out
    · obtain ⟨y1, y2, y2', y3, y3', y4, y5, y6, y7, y8⟩ := F3.out rfl
      have Y1 := jb.mk y1
      have Y4 := jb.mk y4
      have Y5 := jb.mk y5
      have Y6 := jb.mk y6
      have Y7 := jb.mk y7
      have Y8 := jb.mk y8
      have HD := jb.mk (Kd.R_reads' D1.out).2.2
      have HDC := jb.mk (Kd.R_reads' D1.out).2.1
      have HE := jb.mk (Kd.R_reads' E1.out).2.2
      have HEC := jb.mk (Kd.R_reads' E1.out).2.1
      have e1 : decide ((ld.length : Int) < 1) = false := decide_eq_false (by omega)
      clear y1 y4 y5 y6 y7 y8 F3 F4 L3 D1 E1
      go_wp2_with (go_at_call 29; (with_reducible refine (laws_yOnce.calls KG _ _ la _ true _ (Kd.C_below HE.out HCB.out) HEC.out Y1.out).mono ?_); rintro e w1 ⟨rfl, hd⟩; have hb1 := hd.below; clear hd; replace HCB := jb.mk (HCB.out.trans (hb1.mono HCB.out.size)); clear hb1)
      clear e1 Y1
      go_loopg [76] (ld.length + 1) (fun gg vi wr => ∃ i : Int, vi = .int .i64 i ∧ 1 ≤ i ∧ i ≤ ld.length ∧ (ld.length + 1 - i).toNat ≤ gg ∧ jb (Below wY.heap.size wY wr))
      case atStart => exact ⟨1, by go_num, by omega, by omega, by omega, HCB⟩
      case round =>
        clear HCB
        obtain ⟨i, rfl, hi0, hin, hgg, HCB⟩ := hrel
        by_cases hlt : i < (ld.length : Int)
        · as_aux_lemma =>
          have x0 := Y4.out (i.toNat - 1) (by omega)
          have x1 := Y4.out i.toNat (by omega)
          have g1 := Y6.out i.toNat (by omega) (by omega)
          obtain ⟨ad, eA, hx⟩ := iAtR HD.out (i.toNat - 1) (by omega)
          subst eA
          obtain ⟨ad', eA, hy⟩ := iAtR HD.out i.toNat (by omega)
          cases eA
          generalize ld.getD (i.toNat - 1) 0 = x at *
          generalize ld.getD i.toNat 0 = y at *
          obtain ⟨al, eL, hlx⟩ := wAtR L2.out x.toNat (by omega)
          subst eL
          obtain ⟨al', eL, hly⟩ := wAtR L2.out y.toNat (by omega)
          cases eL
          generalize (g.getD x.toNat z25).f1 = u1 at *
          generalize (g.getD y.toNat z25).f1 = v1' at *
          obtain ⟨xx0, xx1⟩ := x0
          obtain ⟨yy0, yy1⟩ := x1
          have p0 : 0 ≤ i - 1 := by omega
          have p1 : i - 1 < (ld.length : Int) := by omega
          have p2 : 0 ≤ i := by omega
          have wsub : wrap64 (i - 1) = i - 1 := by unfold wrap64; omega
          have wsub' : IntKind.i64.wrap (i - 1) = i - 1 := by rw [IntKind.wrap_i64]; omega
          have wadd : wrap64 (i + 1) = i + 1 := by unfold wrap64; omega
          have wadd' : IntKind.i64.wrap (i + 1) = i + 1 := by rw [IntKind.wrap_i64]; omega
          have q1 : decide (u1 ≥ v1') = false := decide_eq_false (by omega)
          have q2 : decide (v1' ≤ u1) = false := decide_eq_false (by omega)
          have k0 := hx _ HCB.out
          have k0' := k0
          rw [show i.toNat - 1 = (i - 1).toNat by omega] at k0'
          have k1 := hy _ HCB.out
          obtain ⟨k2, k3⟩ := hlx _ HCB.out
          obtain ⟨k4, k5⟩ := hly _ HCB.out
          clear Y4 Y5 Y6 Y7 Y8 hx hy hlx hly g1
          go_wp2_with fail
          go_quiet (fail)
          go_wp2_with fail
          go_roundg (ld.length + 1 - (i + 1)).toNat
          case measure => omega
          case rel => exact ⟨i + 1, by go_num, by omega, by omega, by omega, by first | exact HCB | exact ⟨qa HCB.out _⟩⟩
        · as_aux_lemma =>
          have e : i = (ld.length : Int) := by omega
          subst e
          clear Y6
          obtain ⟨ad, eA, hx⟩ := iAtR HD.out 0 (by omega)
          subst eA
          obtain ⟨ad', eA, hz⟩ := iAtR HD.out (ld.length - 1) (by omega)
          cases eA
          have x0 := Y4.out 0 (by omega)
          have x1 := Y4.out (ld.length - 1) (by omega)
          have HX := jb.mk hx
          have HZ := jb.mk hz
          clear hx hz Y4
          generalize ld.getD 0 0 = x at *
          generalize ld.getD (ld.length - 1) 0 = y at *
          obtain ⟨al, eL, hlx⟩ := wAtR L2.out x.toNat (by omega)
          subst eL
          obtain ⟨al', eL, hly⟩ := wAtR L2.out y.toNat (by omega)
          cases eL
          obtain ⟨xx0, xx1⟩ := x0
          obtain ⟨yy0, yy1⟩ := x1
          have HLX := jb.mk hlx
          have HLY := jb.mk hly
          have h8 := Y8.out
          clear hlx hly
          have s0 : 0 ≤ (ld.length : Int) - 1 := by omega
          have s1 : (ld.length : Int) - 1 < (ld.length : Int) := by omega
          have s2 : wrap64 ((ld.length : Int) - 1) = (ld.length : Int) - 1 := by unfold wrap64; omega
          have s3 : IntKind.i64.wrap ((ld.length : Int) - 1) = (ld.length : Int) - 1 := by rw [IntKind.wrap_i64]; omega
          have s4 : ((ld.length : Int) - 1).toNat = ld.length - 1 := by omega
          have s5 : (0 : Int) < (ld.length : Int) := by omega
          have s6 : 0 < ld.length := by omega
          have s7 : ld ≠ [] := List.ne_nil_of_length_pos s6
          have a00 : ad.add 0 = ad := by unfold Addr.add; first | rfl | simp
          go_wp2_with fail
          go_loopg [693] g.length (fun gg vj wr => ∃ j : Int, vj = .int .i64 j ∧ 0 ≤ j ∧ j ≤ g.length ∧ (g.length - j).toNat ≤ gg ∧ jb (Below wY.heap.size wY wr))
          case atStart => exact ⟨0, by go_num, by omega, by omega, by omega, HCB⟩
          case round =>
            clear HCB
            obtain ⟨j, rfl, hj0, hjn, hgg2, HCB⟩ := hrel
            by_cases hlt2 : j < (g.length : Int)
            · as_aux_lemma =>
              have hgl := GL.out
              obtain ⟨f1, f0⟩ := Y7.out j.toNat (by omega)
              obtain ⟨al'', eL, hlj⟩ := wAtR L2.out j.toNat (by omega)
              cases eL
              have kx := HX.out _ HCB.out
              have kz := HZ.out _ HCB.out
              obtain ⟨k2, k3⟩ := HLX.out _ HCB.out
              obtain ⟨k4, k5⟩ := HLY.out _ HCB.out
              obtain ⟨k6, k7⟩ := hlj _ HCB.out
              have HJ := jb.mk hlj
              clear hlj
              generalize (g.getD j.toNat z25).f0 = j0 at *
              generalize (g.getD j.toNat z25).f1 = j1 at *
              generalize (g.getD x.toNat z25).f0 = a0 at *
              generalize (g.getD x.toNat z25).f1 = a1 at *
              generalize (g.getD y.toNat z25).f0 = b0 at *
              generalize (g.getD y.toNat z25).f1 = b1 at *
              have wadd : wrap64 (j + 1) = j + 1 := by unfold wrap64; omega
              have wadd' : IntKind.i64.wrap (j + 1) = j + 1 := by rw [IntKind.wrap_i64]; omega
              have q1 : decide (j1 > b1) = false := decide_eq_false (by omega)
              have q2 : decide (b1 < j1) = false := decide_eq_false (by omega)
              have q3 : decide (j0 > a0) = false := decide_eq_false (by omega)
              have q4 : decide (a0 < j0) = false := decide_eq_false (by omega)
              clear f0 f1 Y7 Y8 h8 Y5
              go_wp2_with fail
              obtain ⟨hb5, z0, z1⟩ := box1 wr j0 j1 25
              generalize wr.alloc (.cells #[.int .i64 j0, .int .i64 j1] 25) = w5 at *
              have HCB5 := jb.mk (HCB.out.trans (hb5.mono HCB.out.size))
              have kx := HX.out _ HCB5.out
              have kz := HZ.out _ HCB5.out
              have kx' := kx
              rw [a00] at kx'
              obtain ⟨k2, k3⟩ := HLX.out _ HCB5.out
              obtain ⟨k4, k5⟩ := HLY.out _ HCB5.out
              clear hb5 k6 k7 HCB
              go_quiet (fail)
              go_wp2_with fail
              go_roundg (g.length - (j + 1)).toNat
              case measure => omega
              case rel => exact ⟨j + 1, by go_num, by omega, by omega, by omega, by first | exact HCB5 | exact ⟨qa HCB5.out _⟩⟩
            · as_aux_lemma =>
              have e : j = (g.length : Int) := by omega
              subst e
              obtain ⟨ae, eA, he⟩ := iAtR HE.out (la.length - 1) (by omega)
              subst eA
              have x2 := Y5.out (la.length - 1) (by omega)
              generalize la.getD (la.length - 1) 0 = v at *
              obtain ⟨al'', eL, hlv⟩ := wAtR L2.out v.toNat (by omega)
              cases eL
              rw [h8] at hlv
              obtain ⟨vv0, vv1⟩ := x2
              have kz := HZ.out _ HCB.out
              have ke := he _ HCB.out
              obtain ⟨k4, k5⟩ := HLY.out _ HCB.out
              obtain ⟨k6, k7⟩ := hlv _ HCB.out
              have HV := jb.mk hlv
              clear he hlv Y5 Y7 Y8 h8 HX HLX
              generalize (g.getD y.toNat z25).f0 = b0 at *
              generalize (g.getD y.toNat z25).f1 = b1 at *
              have r0 : 0 ≤ (la.length : Int) - 1 := by omega
              have r1 : (la.length : Int) - 1 < (la.length : Int) := by omega
              have r2 : wrap64 ((la.length : Int) - 1) = (la.length : Int) - 1 := by unfold wrap64; omega
              have r3 : IntKind.i64.wrap ((la.length : Int) - 1) = (la.length : Int) - 1 := by rw [IntKind.wrap_i64]; omega
              have r4 : ((la.length : Int) - 1).toNat = la.length - 1 := by omega
              go_upto_region 87 with fail
              obtain ⟨hb5, z0, z1⟩ := box1 wr b0 b1 25
              generalize wr.alloc (.cells #[.int .i64 b0, .int .i64 b1] 25) = w5 at *
              have HCB5 := jb.mk (HCB.out.trans (hb5.mono HCB.out.size))
              have kz := HZ.out _ HCB5.out
              obtain ⟨k4, k5⟩ := HLY.out _ HCB5.out
              clear hb5 HCB
              go_upto_region 88 with fail
              obtain ⟨hb6, y0, y1⟩ := box1 w5 b0 b1 25
              have x0 := (hb6.cell (World.block_lt_of_cell? w5 _ z0)).trans z0
              have x1 := (hb6.cell (World.block_lt_of_cell? w5 _ z1)).trans z1
              generalize w5.alloc (.cells #[.int .i64 b0, .int .i64 b1] 25) = w6 at *
              have HCB6 := jb.mk (HCB5.out.trans (hb6.mono HCB5.out.size))
              clear hb6 HCB5 z0 z1
              go_wp2_with fail
              go_meet
              exact HCB6.out
  case rest =>
  as_aux_lemma =>
  clear HCB F3 D1 E1 L2
  have HCB := jb.mk hcut
  clear hcut
  cases ons
  · go_wp2_with fail
    go_ret
    exact ⟨rfl, HWY.out.trans (HCB.out.mono HWY.out.size)⟩
  · obtain ⟨y1, y2, y3, y4⟩ := F4.out rfl
    have Y1 := jb.mk y1
    have Y4 := jb.mk y4
    have e1 : decide (top < 1) = false := decide_eq_false (by omega)
    have e2 : ¬ wrap64 (ring * low) = 0 := by omega
    clear y1 y3 y4 F4
    go_wp2_with (go_at_call 13; (with_reducible refine (laws_yLow.calls KM _ _ true _ Y1.out).mono ?_); rintro e w1 ⟨rfl, hd⟩; have hb1 := hd.below; clear hd; replace HCB := jb.mk (HCB.out.trans (hb1.mono HCB.out.size)); clear hb1)
    clear e1 Y1
    go_loopg [755] many.length (fun gg vj wr => ∃ j : Int, vj = .int .i64 j ∧ 0 ≤ j ∧ j ≤ many.length ∧ (many.length - j).toNat ≤ gg ∧ jb (Below wY.heap.size wY wr))
    case atStart => exact ⟨0, by go_num, by omega, by omega, by omega, HCB⟩
    case round =>
      clear HCB
      obtain ⟨j, rfl, hj0, hjn, hgg2, HCB⟩ := hrel
      by_cases hlt2 : j < (many.length : Int)
      · as_aux_lemma =>
        have hml := ML.out
        have f1 := Y4.out j.toNat (by omega)
        obtain ⟨al, eL, hlj⟩ := wAtR L3.out j.toNat (by omega)
        subst eL
        obtain ⟨k6, k7⟩ := hlj _ HCB.out
        generalize (many.getD j.toNat z25).f0 = j0 at *
        generalize (many.getD j.toNat z25).f1 = j1 at *
        have wadd : wrap64 (j + 1) = j + 1 := by unfold wrap64; omega
        have wadd' : IntKind.i64.wrap (j + 1) = j + 1 := by rw [IntKind.wrap_i64]; omega
        have e3 : (Int.tmod (wrap64 (j1 * top)) (wrap64 (ring * low)) != 0) = false := by rw [f1]; rfl
        clear f1 Y4 hlj
        go_upto_region 96 with fail
        obtain ⟨hb5, z0, z1⟩ := box1 wr j0 j1 25
        generalize wr.alloc (.cells #[.int .i64 j0, .int .i64 j1] 25) = w5 at *
        have HCB5 := jb.mk (HCB.out.trans (hb5.mono HCB.out.size))
        clear hb5 k6 k7 HCB
        go_wp2_with fail
        go_roundg (many.length - (j + 1)).toNat
        case measure => omega
        case rel => exact ⟨j + 1, by go_num, by omega, by omega, by omega, by first | exact HCB5 | exact ⟨qa HCB5.out _⟩⟩
      · as_aux_lemma =>
        go_wp2_with fail
        go_ret
        exact ⟨rfl, HWY.out.trans (HCB.out.mono HWY.out.size)⟩
end Go.Proofs.YtfaccdafldbjcaaGreat.OFnWalkersRound
