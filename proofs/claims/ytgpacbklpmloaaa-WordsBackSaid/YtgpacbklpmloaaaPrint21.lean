-- Written by a program of this session (wip/cprint.py), which calls the kit's print and adds contracts proved by hand.
import Derived.Test.YtgpacbklpmloaaaPrint0
import Derived.Test.YtgpacbklpmloaaaPrint14
import Derived.Test.YtgpacbklpmloaaaPrint15
import Derived.Test.YtgpacbklpmloaaaPrint18
import Derived.Test.YtgpacbklpmloaaaPrint20
namespace Go.Proofs.Ytgpacbklpmloaaa.Print
open Go.RowKit Go.Proofs.YtgpacbklpmloaaaW.PrintWords Go.Proofs.YtgpacbklpmloaaaW.PrintLast Go.Proofs.YtgpacbklpmloaaaW.PrintMore
attribute [local go_sem] max2_int min2_int max_two min_two max_three min_three max_four min_four   -- for this text's walks alone
set_option linter.unusedVariables false
set_option linter.unusedSimpArgs false

/-! ### creellaw15_WordsLong: function 10 -/
def creellaw15_WordsLong.l0 : Nat → Bool → List (List Int) → List Int → Int → Int → List (List Int) → Int → Int → Option (Bool)
 | 0, _, _, _, _, _, _, _, _ => none
 | k + 1, x3, x4, x5, x6, x7, x22, x23, x24 => if x24 < x23 then (if 0 ≤ x24 then (if x24 < (x22.length : Int) then (if x24 > 0 then (if 0 ≤ (wrap64 (x24 - 1)) then (if (wrap64 (x24 - 1)) < (x4.length : Int) then ((words_Shared.f k (rd_L3 x4 (wrap64 (x24 - 1))) (rd_L3 x22 x24)).bind fun t516 => (creellaw15_WordsLong.l0 k x3 x4 x5 x6 (wrap64 ((wrap64 (x7 + (wrap64 (2 + ((rd_L3 x22 x24).length : Int))))) - t516)) x22 x23 (wrap64 (x24 + 1)))) else (none)) else (none)) else (creellaw15_WordsLong.l0 k x3 x4 x5 x6 (wrap64 (x7 + (wrap64 (2 + ((rd_L3 x22 x24).length : Int))))) x22 x23 (wrap64 (x24 + 1)))) else (none)) else (none)) else (if x3 = true then (if x6 = 0 then (some ((x5.length : Int) == x7)) else (some false)) else (some false))
def creellaw15_WordsLong.f (k : Nat) (l0 : List (List Int)) : Option (Bool) := (creellaw15_shown.f k).bind fun t506 => ((creellaw15_rise.f k l0).bind fun t507 => (if (t507.length : Int) = 0 then (some t506) else ((words_Put.f k t507).bind fun bt510 => (creellaw15_WordsLong.l0 k t506 t507 bt510.1 bt510.2 1 t507 (t507.length : Int) 0))))
theorem creellaw15_WordsLong.mono_l : ∀ k, (∀ y0 y1 y2 y3 y4 y5 y6 y7, LeO (creellaw15_WordsLong.l0 k y0 y1 y2 y3 y4 y5 y6 y7) (creellaw15_WordsLong.l0 (k + 1) y0 y1 y2 y3 y4 y5 y6 y7))
 | 0 => fun _ _ _ _ _ _ _ _ r h => by simp [creellaw15_WordsLong.l0] at h
 | k + 1 => by
  have ih0 := creellaw15_WordsLong.mono_l k
  ·intro y0 y1 y2 y3 y4 y5 y6 y7
   unfold creellaw15_WordsLong.l0
   repeat' first
   | (with_reducible exact ih0 _ _ _ _ _ _ _ _)
   | (with_reducible exact creellaw15_rise.mono _ _)
   | (with_reducible exact creellaw15_shown.mono _)
   | (with_reducible exact words_Put.mono _ _)
   | (with_reducible exact words_Shared.mono _ _ _)
   | (with_reducible exact LeO.refl _)
   | (with_reducible exact LeO.none _)
   | (with_reducible refine LeO.ite ?_ ?_)
   | (with_reducible refine LeO.bind ?_ (fun _ => ?_))
   | exact ih0 _ _ _ _ _ _ _ _
   | exact creellaw15_rise.mono _ _
   | exact creellaw15_shown.mono _
   | exact words_Put.mono _ _
   | exact words_Shared.mono _ _ _
   | exact LeO.none _
   | refine LeO.ite ?_ ?_
   | refine LeO.bind ?_ (fun _ => ?_)
theorem creellaw15_WordsLong.mono : ∀ a0 k, LeO (creellaw15_WordsLong.f k a0) (creellaw15_WordsLong.f (k + 1) a0) := by
 intro a0 k
 have ih0 := creellaw15_WordsLong.mono_l k
 unfold creellaw15_WordsLong.f
 repeat' first
   | (with_reducible exact ih0 _ _ _ _ _ _ _ _)
   | (with_reducible exact creellaw15_rise.mono _ _)
   | (with_reducible exact creellaw15_shown.mono _)
   | (with_reducible exact words_Put.mono _ _)
   | (with_reducible exact words_Shared.mono _ _ _)
   | (with_reducible exact LeO.refl _)
   | (with_reducible exact LeO.none _)
   | (with_reducible refine LeO.ite ?_ ?_)
   | (with_reducible refine LeO.bind ?_ (fun _ => ?_))
   | exact ih0 _ _ _ _ _ _ _ _
   | exact creellaw15_rise.mono _ _
   | exact creellaw15_shown.mono _
   | exact words_Put.mono _ _
   | exact words_Shared.mono _ _ _
   | exact LeO.none _
   | refine LeO.ite ?_ ?_
   | refine LeO.bind ?_ (fun _ => ?_)
set_option maxHeartbeats 8000000 in
set_option maxRecDepth 100000 in
theorem creellaw15_WordsLong.calls (k : Nat) (A0 : Option Addr) (c0 : Nat) (l0 : List (List Int)) (r : Bool) (w : World) (hr0 : Kd.C (Kd.slice 5 (Kd.int .u8)) w A0 l0.length l0) (hc0 : l0.length ≤ c0) (h : creellaw15_WordsLong.f k l0 = some r) :
  Calls Try.prog 10 #[.slice A0 l0.length c0] w fun e w' => e = .returned (.bool r) ∧ Below w.heap.size w w' := by
 have HR0 := Aside0.mk hr0
 have HC0 := Aside0.mk hc0
 clear hr0 hc0
 have HB := Aside0.mk (Below.refl w.heap.size w)
 have H : ((creellaw15_shown.f k).bind fun t506 => ((creellaw15_rise.f k l0).bind fun t507 => (if (t507.length : Int) = 0 then (some t506) else ((words_Put.f k t507).bind fun bt510 => (creellaw15_WordsLong.l0 k t506 t507 bt510.1 bt510.2 1 t507 (t507.length : Int) 0))))) = some r := h
 clear h
 replace H := Option.bind_eq_some_iff.mp H
 obtain ⟨t506, A20, H⟩ := H
 replace H : ((creellaw15_rise.f k l0).bind fun t507 => (if (t507.length : Int) = 0 then (some t506) else ((words_Put.f k t507).bind fun bt510 => (creellaw15_WordsLong.l0 k t506 t507 bt510.1 bt510.2 1 t507 (t507.length : Int) 0)))) = some r := H
 have A2 := Aside0.mk A20
 clear A20
 replace H := Option.bind_eq_some_iff.mp H
 obtain ⟨t507, A30, H⟩ := H
 replace H : (if (t507.length : Int) = 0 then (some t506) else ((words_Put.f k t507).bind fun bt510 => (creellaw15_WordsLong.l0 k t506 t507 bt510.1 bt510.2 1 t507 (t507.length : Int) 0))) = some r := H
 have A3 := Aside0.mk A30
 clear A30
 by_cases c4 : (t507.length : Int) = 0
 ·rw [if_pos c4] at H
  have c4b0 : ((t507.length : Int) == 0) = true := beq_iff_eq.mpr c4
  have c4b1 : ((t507.length : Int) != 0) = false := bne_eq_false_iff_eq.mpr c4
  clear c4
  obtain rfl := Option.some.inj H
  go_enter Try.func10, Try.ntmps10
  go_wp2_with (first | ((with_reducible refine gate_callee (f := 25) rfl ?_); refine goesL_ (some 10) rfl rfl Try.func25 (by kernel_rfl) rfl #[] rfl (by (try simp only [List.map_toArray, List.map_cons, List.map_nil]); first | done | rfl | (simp only [List.length_drop, List.length_take]; rfl)) ?_; (with_reducible refine (creellaw15_shown.calls k  t506 _ A2.out).mono ?_); rintro e w5 ⟨rfl, hb⟩; refine ⟨_, rfl, ?_⟩; have n0_ := Aside0.mk (below_step (by repeat (first | (with_reducible first | exact HB.out | apply below_alloc | apply pw_below_drewN | apply below_drew1) | exact HB.out)) hb); clear HB; have HB := n0_; clear n0_; (try clear hb); (try clear hb2); (try clear hk); (try clear hi)) | ((with_reducible refine gate_callee (f := 28) rfl ?_); refine goesL_ (some 12) rfl rfl Try.func28 (by kernel_rfl) rfl #[.slice A0 l0.length c0] rfl (by (try simp only [List.map_toArray, List.map_cons, List.map_nil]); first | done | rfl | (simp only [List.length_drop, List.length_take]; rfl)) ?_; (with_reducible refine (creellaw15_rise.calls k (fun k_ => k_ < w.heap.size) _ _ l0 t507 _ ?side1 A3.out).mono ?_); (case side1 => exact Kd.V_mk HC0.out (Kd.F_below (Kd.C_F (Kd.heap_slice 5 (Kd.heap_int .u8)) HR0.out) (by repeat (first | (with_reducible first | exact HB.out | apply below_alloc | apply pw_below_drewN | apply below_drew1) | exact HB.out)))); rintro e w6 ⟨v508, rfl, ho0, hb⟩; refine ⟨_, rfl, ?_⟩; have n0_ := Aside0.mk (Kd.N_lower (Kd.N_mono (ok' := fun k_ => True) ho0 (fun k_ hk_ => trivial)) (below_size (by repeat (first | (with_reducible first | exact HB.out | apply below_alloc | apply pw_below_drewN | apply below_drew1) | exact HB.out)))); have n1_ := Aside0.mk (below_step (by repeat (first | (with_reducible first | exact HB.out | apply below_alloc | apply pw_below_drewN | apply below_drew1) | exact HB.out)) hb); clear HB; have HO509 := n0_; have HB := n1_; clear n0_ n1_; (try clear hb); (try clear hb2); (try clear hk); (try clear hi); (try clear ho0); obtain ⟨Ao7, co7, eo7⟩ := Kd.N_slice HO509.out; subst eo7))
  go_ret
  exact ⟨by first | rfl | (simp [errW_none, errW_some] <;> rfl) | (simp [*, errW_none, errW_some] <;> rfl), by repeat (first | (with_reducible first | exact HB.out | apply below_alloc | apply pw_below_drewN | apply below_drew1) | exact HB.out)⟩
 ·rw [if_neg c4] at H
  have c4b0 : ((t507.length : Int) == 0) = false := beq_eq_false_iff_ne.mpr c4
  have c4b1 : ((t507.length : Int) != 0) = true := bne_iff_ne.mpr c4
  have c4b2 : ¬ (t507 = []) := fun h_ => c4 (by rw [h_]; rfl)
  replace H := Option.bind_eq_some_iff.mp H
  obtain ⟨⟨t510, t513⟩, A80, H⟩ := H
  replace H : (creellaw15_WordsLong.l0 k t506 t507 t510 t513 1 t507 (t507.length : Int) 0) = some r := H
  have A8 := Aside0.mk A80
  clear A80
  have H' := Aside0.mk H
  clear H
  go_enter Try.func10, Try.ntmps10
  go_wp2_with (first | ((with_reducible refine gate_callee (f := 25) rfl ?_); refine goesL_ (some 10) rfl rfl Try.func25 (by kernel_rfl) rfl #[] rfl (by (try simp only [List.map_toArray, List.map_cons, List.map_nil]); first | done | rfl | (simp only [List.length_drop, List.length_take]; rfl)) ?_; (with_reducible refine (creellaw15_shown.calls k  t506 _ A2.out).mono ?_); rintro e w9 ⟨rfl, hb⟩; refine ⟨_, rfl, ?_⟩; have n0_ := Aside0.mk (below_step (by repeat (first | (with_reducible first | exact HB.out | apply below_alloc | apply pw_below_drewN | apply below_drew1) | exact HB.out)) hb); clear HB; have HB := n0_; clear n0_; (try clear hb); (try clear hb2); (try clear hk); (try clear hi)) | ((with_reducible refine gate_callee (f := 28) rfl ?_); refine goesL_ (some 12) rfl rfl Try.func28 (by kernel_rfl) rfl #[.slice A0 l0.length c0] rfl (by (try simp only [List.map_toArray, List.map_cons, List.map_nil]); first | done | rfl | (simp only [List.length_drop, List.length_take]; rfl)) ?_; (with_reducible refine (creellaw15_rise.calls k (fun k_ => k_ < w.heap.size) _ _ l0 t507 _ ?side1 A3.out).mono ?_); (case side1 => exact Kd.V_mk HC0.out (Kd.F_below (Kd.C_F (Kd.heap_slice 5 (Kd.heap_int .u8)) HR0.out) (by repeat (first | (with_reducible first | exact HB.out | apply below_alloc | apply pw_below_drewN | apply below_drew1) | exact HB.out)))); rintro e w10 ⟨v508, rfl, ho0, hb⟩; refine ⟨_, rfl, ?_⟩; have n0_ := Aside0.mk (Kd.N_lower (Kd.N_mono (ok' := fun k_ => True) ho0 (fun k_ hk_ => trivial)) (below_size (by repeat (first | (with_reducible first | exact HB.out | apply below_alloc | apply pw_below_drewN | apply below_drew1) | exact HB.out)))); have n1_ := Aside0.mk (below_step (by repeat (first | (with_reducible first | exact HB.out | apply below_alloc | apply pw_below_drewN | apply below_drew1) | exact HB.out)) hb); clear HB; have HO509 := n0_; have HB := n1_; clear n0_ n1_; (try clear hb); (try clear hb2); (try clear hk); (try clear hi); (try clear ho0); obtain ⟨Ao11, co11, eo11⟩ := Kd.N_slice HO509.out; subst eo11) | ((with_reducible refine gate_callee (f := 22) rfl ?_); refine goesL_ (some 19) rfl rfl Try.func22 (by kernel_rfl) rfl #[.slice Ao11 t507.length co11] rfl (by (try simp only [List.map_toArray, List.map_cons, List.map_nil]); first | done | rfl | (simp only [List.length_drop, List.length_take]; rfl)) ?_; (with_reducible refine (words_Put.calls k (fun k_ => True) _ _ t507 t510 t513 _ ?side1 A8.out).mono ?_); (case side1 => exact Kd.N_V (HO509.out)); rintro e w12 ⟨v511, rfl, ho0, hb⟩; refine ⟨_, rfl, ?_⟩; have n0_ := Aside0.mk (Kd.N_elder' (by (with_reducible repeat (first | apply Kd.N_alloc | apply Kd.N_drewN | apply Kd.N_drew)); exact HO509.out) (Kd.R_base ho0) hb); have n1_ := Aside0.mk (Kd.R_lower (Kd.R_mono (ok' := fun k_ => True) ho0 (fun _ hk_ => trivial)) (below_size (by repeat (first | (with_reducible first | exact HB.out | apply below_alloc | apply pw_below_drewN | apply below_drew1) | exact HB.out)))); have n2_ := Aside0.mk (below_step (by repeat (first | (with_reducible first | exact HB.out | apply below_alloc | apply pw_below_drewN | apply below_drew1) | exact HB.out)) hb); clear HO509; clear HB; have HO509 := n0_; have HO512 := n1_; have HB := n2_; clear n0_ n1_ n2_; (try clear hb); (try clear hb2); (try clear hk); (try clear hi); (try clear ho0)))
  go_loopg [7, 24] k (fun kq v7 v24 w' => ∃ (x7_1 : Int) (x24_1 : Int), v7 = .int .i64 x7_1 ∧ v24 = .int .i64 x24_1 ∧ Aside0 (creellaw15_WordsLong.l0 kq t506 t507 t510 t513 x7_1 t507 (t507.length : Int) x24_1 = some r) ∧ Aside0 (kq ≤ k) ∧ Aside0 (Kd.N (Kd.slice 5 (Kd.int .u8)) 27 w' w.heap.size (fun k_ => some k_ ≠ (v511 : Value).ownBlock) (.slice Ao11 t507.length co11) t507) ∧ Aside0 (Kd.R (Kd.int .u8) 5 w' w.heap.size (fun _ => True) v511 t510) ∧ Aside0 (Kd.N (Kd.slice 5 (Kd.int .u8)) 27 w' w.heap.size (fun k_ => some k_ ≠ (v511 : Value).ownBlock) (.slice Ao11 t507.length co11) t507) ∧ Aside0 (Below w.heap.size w w'))
  case atStart => exact ⟨(1), (0), (by first | rfl | (simp; done) | (simp [*]; done)), (by first | rfl | (simp; done) | (simp [*]; done)), H', ⟨Nat.le_refl _⟩, ⟨by (with_reducible repeat (first | apply Kd.N_alloc | apply Kd.N_drewN | apply Kd.N_drew)); exact Kd.N_mono HO509.out (fun _ hk => hk.2)⟩, ⟨by (with_reducible repeat (first | apply Kd.R_alloc | apply Kd.R_drewN | apply Kd.R_drew)); exact HO512.out⟩, ⟨by (with_reducible repeat (first | apply Kd.N_alloc | apply Kd.N_drewN | apply Kd.N_drew)); exact Kd.N_mono HO509.out (fun _ hk => hk.2)⟩, ⟨by repeat (first | (with_reducible first | exact HB.out | apply below_alloc | apply pw_below_drewN | apply below_drew1) | exact HB.out)⟩⟩
  case round =>
   clear H'
   try clear c1
   try clear c2
   try clear p2
   try clear c4
   try clear c4b0
   try clear c4b1
   try clear c4b2
   try clear c10
   obtain ⟨x7_1, x24_1, rfl, rfl, HA, HK1, HO_4, HO_5, HO_22, HB⟩ := hrel
   cases gk with
   | zero => exact absurd HA.out (by simp [creellaw15_WordsLong.l0])
   | succ k1 =>
    have H := HA.out
    clear HA
    simp only [creellaw15_WordsLong.l0] at H
    by_cases c13 : x24_1 < (t507.length : Int)
    ·rw [if_pos c13] at H
     have c13b0 : decide (x24_1 < (t507.length : Int)) = true := decide_eq_true c13
     clear c13
     by_cases c14 : 0 ≤ x24_1
     ·rw [if_pos c14] at H
      have c14b0 : decide (0 ≤ x24_1) = true := decide_eq_true c14
      clear c14
      by_cases c15 : x24_1 < (t507.length : Int)
      ·rw [if_pos c15] at H
       have c15b0 : decide (x24_1 < (t507.length : Int)) = true := decide_eq_true c15
       clear c15
       by_cases c16 : x24_1 > 0
       ·rw [if_pos c16] at H
        have c16b0 : decide (0 < x24_1) = true := decide_eq_true c16
        clear c16
        obtain ⟨ji17, hji17⟩ : ∃ j_ : Int, (wrap64 (x24_1 - 1)) = j_ := ⟨_, rfl⟩
        replace H : (if 0 ≤ (ji17) then (if (ji17) < (t507.length : Int) then ((words_Shared.f k1 (rd_L3 t507 (ji17)) (rd_L3 t507 x24_1)).bind fun t516 => (creellaw15_WordsLong.l0 k1 t506 t507 t510 t513 (wrap64 ((wrap64 (x7_1 + (wrap64 (2 + ((rd_L3 t507 x24_1).length : Int))))) - t516)) t507 (t507.length : Int) (wrap64 (x24_1 + 1)))) else (none)) else (none)) = some r := by first | (rw [hji17] at H; exact H) | (simp only [hji17] at H ⊢; exact H)
        have hji17w : (IntKind.i64.wrap (x24_1 - 1)) = ji17 := (i64_w _).trans hji17
        by_cases c18 : 0 ≤ (ji17)
        ·rw [if_pos c18] at H
         have c18b0 : decide (0 ≤ (ji17)) = true := decide_eq_true c18
         clear c18
         by_cases c19 : (ji17) < (t507.length : Int)
         ·rw [if_pos c19] at H
          have c19b0 : decide ((ji17) < (t507.length : Int)) = true := decide_eq_true c19
          clear c19
          replace H := Option.bind_eq_some_iff.mp H
          obtain ⟨t516, A200, H⟩ := H
          replace H : (creellaw15_WordsLong.l0 k1 t506 t507 t510 t513 (wrap64 ((wrap64 (x7_1 + (wrap64 (2 + ((rd_L3 t507 x24_1).length : Int))))) - t516)) t507 (t507.length : Int) (wrap64 (x24_1 + 1))) = some r := H
          have A20 := Aside0.mk A200
          clear A200
          have H' := Aside0.mk H
          clear H
          have p514 : 0 ≤ (x24_1 : Int) := of_decide_eq_true (by first | (with_reducible assumption) | assumption)
          have q514 : x24_1 < (t507.length : Int) := of_decide_eq_true (by first | (with_reducible assumption) | assumption)
          obtain ⟨ad514, A514_0, c514_0, e514, hx514_0, hl514_0, hi514_0⟩ := at_L3 (Kd.N_reads' HO_22.out).2.2 x24_1 p514 q514
          cases e514
          obtain ⟨ce514, hce514, hMe514, hcc514⟩ := Kd.N_get HO_22.out [] x24_1 p514 (by first | exact q514 | exact of_decide_eq_true (by first | (with_reducible assumption) | assumption) | (have e_ := (Kd.N_reads' HO_22.out).1; omega))
          obtain ⟨ua514_0, uc514_0, rfl, ul514_0, ge514_0⟩ := Kd.FK_slice_open hMe514
          have hv514_0 := hcc514 0 _ rfl
          rw [Nat.add_zero, show ((Kd.slice 5 (Kd.int .u8))).sz = 1 from rfl, Nat.mul_one] at hv514_0
          replace hv514_0 := Option.some.inj (hv514_0.symm.trans hx514_0)
          injection hv514_0 with hva_ hvn_ hvc_
          rw [hva_] at ge514_0
          rw [hvc_] at ul514_0
          have HL514_0 := Aside0.mk (show Kd.V (Kd.int .u8) 5 _ w.heap.size _ _ (rd_L3 t507 x24_1) from Kd.V_mk ul514_0 ge514_0)
          clear hva_ hvn_ hvc_ ge514_0 ul514_0
          clear hcc514 hce514
          have HR514_0 := Aside0.mk hi514_0
          have HC514_0 := Aside0.mk hl514_0
          clear hi514_0 hl514_0
          replace p514 := eq_true p514
          replace q514 := eq_true q514
          have p515 : 0 ≤ ((ji17) : Int) := of_decide_eq_true (by first | (with_reducible assumption) | assumption)
          have q515 : (ji17) < (t507.length : Int) := of_decide_eq_true (by first | (with_reducible assumption) | assumption)
          obtain ⟨ad515, A515_0, c515_0, e515, hx515_0, hl515_0, hi515_0⟩ := at_L3 (Kd.N_reads' HO_4.out).2.2 (ji17) p515 q515
          obtain rfl : ad514 = ad515 := (by injection e515)
          obtain ⟨ce515, hce515, hMe515, hcc515⟩ := Kd.N_get HO_4.out [] (ji17) p515 (by first | exact q515 | exact of_decide_eq_true (by first | (with_reducible assumption) | assumption) | (have e_ := (Kd.N_reads' HO_4.out).1; omega))
          obtain ⟨ua515_0, uc515_0, rfl, ul515_0, ge515_0⟩ := Kd.FK_slice_open hMe515
          have hv515_0 := hcc515 0 _ rfl
          rw [Nat.add_zero, show ((Kd.slice 5 (Kd.int .u8))).sz = 1 from rfl, Nat.mul_one] at hv515_0
          replace hv515_0 := Option.some.inj (hv515_0.symm.trans hx515_0)
          injection hv515_0 with hva_ hvn_ hvc_
          rw [hva_] at ge515_0
          rw [hvc_] at ul515_0
          have HL515_0 := Aside0.mk (show Kd.V (Kd.int .u8) 5 _ w.heap.size _ _ (rd_L3 t507 (ji17)) from Kd.V_mk ul515_0 ge515_0)
          clear hva_ hvn_ hvc_ ge515_0 ul515_0
          clear hcc515 hce515
          have HR515_0 := Aside0.mk hi515_0
          have HC515_0 := Aside0.mk hl515_0
          clear hi515_0 hl515_0
          replace p515 := eq_true p515
          replace q515 := eq_true q515
          go_wp2_with (first | ((with_reducible refine gate_callee (f := 26) rfl ?_); refine goesL_ (some 43) rfl rfl Try.func26 (by kernel_rfl) rfl #[.slice A515_0 (rd_L3 t507 (ji17)).length c515_0, .slice A514_0 (rd_L3 t507 x24_1).length c514_0] rfl (by (try simp only [List.map_toArray, List.map_cons, List.map_nil]); first | done | (simp only [hji17]; rfl) | rfl | (simp only [List.length_drop, List.length_take]; rfl)) ?_; (with_reducible refine (words_Shared.calls k1 _ _ (rd_L3 t507 (ji17)) _ _ (rd_L3 t507 x24_1) t516 _ ?side1 ?side2 ?side3 ?side4 A20.out).mono ?_); (case side1 => repeat (first | exact (by repeat (first | (with_reducible exact HR515_0.out) | (with_reducible refine Kd.C_alloc ?_ _) | (with_reducible refine Kd.C_drewN ?_ _) | (with_reducible refine Kd.C_drew ?_) | exact HR515_0.out)) | (with_reducible refine Kd.C_alloc ?_ _) | (with_reducible refine Kd.C_drewN ?_ _) | (with_reducible refine Kd.C_drew ?_))); (case side2 => exact HC515_0.out); (case side3 => repeat (first | exact (by repeat (first | (with_reducible exact HR514_0.out) | (with_reducible refine Kd.C_alloc ?_ _) | (with_reducible refine Kd.C_drewN ?_ _) | (with_reducible refine Kd.C_drew ?_) | exact HR514_0.out)) | (with_reducible refine Kd.C_alloc ?_ _) | (with_reducible refine Kd.C_drewN ?_ _) | (with_reducible refine Kd.C_drew ?_))); (case side4 => exact HC514_0.out); rintro e w21 ⟨rfl, hb⟩; refine ⟨_, rfl, ?_⟩; have n0_ := Aside0.mk (Kd.N_below (by (with_reducible repeat (first | apply Kd.N_alloc | apply Kd.N_drewN | apply Kd.N_drew)); exact HO_4.out) hb); have n1_ := Aside0.mk (Kd.R_below (by (with_reducible repeat (first | apply Kd.R_alloc | apply Kd.R_drewN | apply Kd.R_drew)); exact HO_5.out) hb); have n2_ := Aside0.mk (Kd.N_below (by (with_reducible repeat (first | apply Kd.N_alloc | apply Kd.N_drewN | apply Kd.N_drew)); exact HO_22.out) hb); have n3_ := Aside0.mk (Kd.V_below (by (with_reducible repeat (first | apply Kd.V_alloc | apply Kd.V_drewN | apply Kd.V_drew)); exact HL514_0.out) hb); have n4_ := Aside0.mk (Kd.V_below (by (with_reducible repeat (first | apply Kd.V_alloc | apply Kd.V_drewN | apply Kd.V_drew)); exact HL515_0.out) hb); have n5_ := Aside0.mk (Kd.C_below (by repeat (first | (with_reducible exact HR514_0.out) | (with_reducible refine Kd.C_alloc ?_ _) | (with_reducible refine Kd.C_drewN ?_ _) | (with_reducible refine Kd.C_drew ?_) | exact HR514_0.out)) hb); have n6_ := Aside0.mk (Kd.C_below (by repeat (first | (with_reducible exact HR515_0.out) | (with_reducible refine Kd.C_alloc ?_ _) | (with_reducible refine Kd.C_drewN ?_ _) | (with_reducible refine Kd.C_drew ?_) | exact HR515_0.out)) hb); have n7_ := Aside0.mk (below_step (by repeat (first | (with_reducible first | exact HB.out | apply below_alloc | apply pw_below_drewN | apply below_drew1) | exact HB.out)) hb); clear HO_4; clear HO_5; clear HO_22; clear HL514_0; clear HL515_0; clear HR514_0; clear HR515_0; clear HB; have HO_4 := n0_; have HO_5 := n1_; have HO_22 := n2_; have HL514_0 := n3_; have HL515_0 := n4_; have HR514_0 := n5_; have HR515_0 := n6_; have HB := n7_; clear n0_ n1_ n2_ n3_ n4_ n5_ n6_ n7_; (try clear hb); (try clear hb2); (try clear hk); (try clear hi)))
          go_roundg k1
          case measure => have := HK1.out; omega
          case rel => exact ⟨(wrap64 ((wrap64 (x7_1 + (wrap64 (2 + ((rd_L3 t507 x24_1).length : Int))))) - t516)), (wrap64 (x24_1 + 1)), (by first | rfl | (simp; done) | (simp [*]; done)), (by first | rfl | (simp; done) | (simp [*]; done)), H', ⟨by have := HK1.out; omega⟩, ⟨by (with_reducible repeat (first | apply Kd.N_alloc | apply Kd.N_drewN | apply Kd.N_drew)); exact HO_4.out⟩, ⟨by (with_reducible repeat (first | apply Kd.R_alloc | apply Kd.R_drewN | apply Kd.R_drew)); exact HO_5.out⟩, ⟨by (with_reducible repeat (first | apply Kd.N_alloc | apply Kd.N_drewN | apply Kd.N_drew)); exact HO_22.out⟩, ⟨by repeat (first | (with_reducible first | exact HB.out | apply below_alloc | apply pw_below_drewN | apply below_drew1) | exact HB.out)⟩⟩
         ·rw [if_neg c19] at H
          exact absurd H (by simp)
        ·rw [if_neg c18] at H
         exact absurd H (by simp)
       ·rw [if_neg c16] at H
        have c16b0 : decide (0 < x24_1) = false := decide_eq_false c16
        clear c16
        have H' := Aside0.mk H
        clear H
        have p514 : 0 ≤ (x24_1 : Int) := of_decide_eq_true (by first | (with_reducible assumption) | assumption)
        have q514 : x24_1 < (t507.length : Int) := of_decide_eq_true (by first | (with_reducible assumption) | assumption)
        obtain ⟨ad514, A514_0, c514_0, e514, hx514_0, hl514_0, hi514_0⟩ := at_L3 (Kd.N_reads' HO_22.out).2.2 x24_1 p514 q514
        cases e514
        obtain ⟨ce514, hce514, hMe514, hcc514⟩ := Kd.N_get HO_22.out [] x24_1 p514 (by first | exact q514 | exact of_decide_eq_true (by first | (with_reducible assumption) | assumption) | (have e_ := (Kd.N_reads' HO_22.out).1; omega))
        obtain ⟨ua514_0, uc514_0, rfl, ul514_0, ge514_0⟩ := Kd.FK_slice_open hMe514
        have hv514_0 := hcc514 0 _ rfl
        rw [Nat.add_zero, show ((Kd.slice 5 (Kd.int .u8))).sz = 1 from rfl, Nat.mul_one] at hv514_0
        replace hv514_0 := Option.some.inj (hv514_0.symm.trans hx514_0)
        injection hv514_0 with hva_ hvn_ hvc_
        rw [hva_] at ge514_0
        rw [hvc_] at ul514_0
        have HL514_0 := Aside0.mk (show Kd.V (Kd.int .u8) 5 _ w.heap.size _ _ (rd_L3 t507 x24_1) from Kd.V_mk ul514_0 ge514_0)
        clear hva_ hvn_ hvc_ ge514_0 ul514_0
        clear hcc514 hce514
        have HR514_0 := Aside0.mk hi514_0
        have HC514_0 := Aside0.mk hl514_0
        clear hi514_0 hl514_0
        replace p514 := eq_true p514
        replace q514 := eq_true q514
        go_wp2
        go_roundg k1
        case measure => have := HK1.out; omega
        case rel => exact ⟨(wrap64 (x7_1 + (wrap64 (2 + ((rd_L3 t507 x24_1).length : Int))))), (wrap64 (x24_1 + 1)), (by first | rfl | (simp; done) | (simp [*]; done)), (by first | rfl | (simp; done) | (simp [*]; done)), H', ⟨by have := HK1.out; omega⟩, ⟨by (with_reducible repeat (first | apply Kd.N_alloc | apply Kd.N_drewN | apply Kd.N_drew)); exact HO_4.out⟩, ⟨by (with_reducible repeat (first | apply Kd.R_alloc | apply Kd.R_drewN | apply Kd.R_drew)); exact HO_5.out⟩, ⟨by (with_reducible repeat (first | apply Kd.N_alloc | apply Kd.N_drewN | apply Kd.N_drew)); exact HO_22.out⟩, ⟨by repeat (first | (with_reducible first | exact HB.out | apply below_alloc | apply pw_below_drewN | apply below_drew1) | exact HB.out)⟩⟩
      ·rw [if_neg c15] at H
       exact absurd H (by simp)
     ·rw [if_neg c14] at H
      exact absurd H (by simp)
    ·rw [if_neg c13] at H
     have c13b0 : decide (x24_1 < (t507.length : Int)) = false := decide_eq_false c13
     clear c13
     by_cases c22 : t506 = true
     ·subst c22
      have H1 : (if t513 = 0 then (some ((t510.length : Int) == x7_1)) else (some false)) = some r := by rw [if_pos rfl] at H; exact H
      clear H
      have H := H1
      clear H1
      by_cases c23 : t513 = 0
      ·rw [if_pos c23] at H
       have c23b0 : (t513 == 0) = true := beq_iff_eq.mpr c23
       have c23b1 : (t513 != 0) = false := bne_eq_false_iff_eq.mpr c23
       clear c23
       obtain rfl := Option.some.inj H
       obtain ⟨Ao24, co24, eo24⟩ := Kd.R_slice HO_5.out
       subst eo24
       go_wp2
       go_ret
       exact ⟨by first | rfl | (simp [errW_none, errW_some] <;> rfl) | (simp [*, errW_none, errW_some] <;> rfl), by repeat (first | (with_reducible first | exact HB.out | apply below_alloc | apply pw_below_drewN | apply below_drew1) | exact HB.out)⟩
      ·rw [if_neg c23] at H
       have c23b0 : (t513 == 0) = false := beq_eq_false_iff_ne.mpr c23
       have c23b1 : (t513 != 0) = true := bne_iff_ne.mpr c23
       obtain rfl := Option.some.inj H
       go_wp2
       go_ret
       exact ⟨by first | rfl | (simp [errW_none, errW_some] <;> rfl) | (simp [*, errW_none, errW_some] <;> rfl), by repeat (first | (with_reducible first | exact HB.out | apply below_alloc | apply pw_below_drewN | apply below_drew1) | exact HB.out)⟩
     ·replace c22 := Bool.eq_false_iff.mpr c22
      subst c22
      have H1 : (some false) = some r := by rw [if_neg (show ¬ (false = true) by decide)] at H; exact H
      clear H
      have H := H1
      clear H1
      obtain rfl := Option.some.inj H
      go_wp2
      go_ret
      exact ⟨by first | rfl | (simp [errW_none, errW_some] <;> rfl) | (simp [*, errW_none, errW_some] <;> rfl), by repeat (first | (with_reducible first | exact HB.out | apply below_alloc | apply pw_below_drewN | apply below_drew1) | exact HB.out)⟩

/-- THE ONE PURE STATEMENT of creellaw15_WordsLong: yours. -/
def creellaw15_WordsLong.Pure : Prop := ∀ (l0 : List (List Int)), l0.length ≤ maxLen → (∀ x ∈ l0, x.length ≤ maxLen ∧ ∀ y ∈ x, (Lit.int .u8 y).wf = true) → ∃ k, creellaw15_WordsLong.f k l0 = some true
theorem creellaw15_WordsLong.walk (P : creellaw15_WordsLong.Pure) (a0 : Option Addr) (len0 cap0 : Nat) (l0 : List (List Int)) (w : World) (w0 : Hand.IsSl (Kd.slice 5 (Kd.int .u8)) (fun x => x.length ≤ maxLen ∧ ∀ y ∈ x, (Lit.int .u8 y).wf = true) w a0 len0 cap0 l0) :
  Calls Try.prog 10 #[.slice a0 len0 cap0] w fun e w' => e = .returned (.bool true) ∧ Below w.heap.size w w' := by
 obtain ⟨rfl, hc0, hm0, hr0, hw0⟩ := w0
 obtain ⟨k, h⟩ := P l0 hm0 hw0
 refine (creellaw15_WordsLong.calls k _ _ l0 true w hr0 hc0 h).mono ?_
 rintro e w' ⟨rfl, hd⟩
 exact ⟨rfl, hd⟩

-- NOT PRINTED: function 48 (slices_Grow_byte_byte)

/-! ### slices_Concat_byte_byte: function 46 -/
set_option maxHeartbeats 2000000 in
set_option maxRecDepth 100000 in
/-- 'Grow' of nothing: room alone. -/
theorem grow_nil (n : Int) (h0 : 0 ≤ n) (hn : n < 140737488355000) (w : World) :
  Calls Try.prog 48 #[.slice none 0 0, .int .i64 n] w fun e w' => ∃ v_ : Value, e = .returned v_ ∧ Kd.R (Kd.int .u8) 5 w' w.heap.size (fun _ => True) v_ [] ∧ Below w.heap.size w w' := by
 obtain ⟨i5, hi5, _, hsz5, _⟩ := info_parts info5
 obtain ⟨hk0, -, -⟩ := print_take_of (P := Try.prog) (Value.int .u8) (0 : Int) 27 5 .i64 Try.underlying27 hi5 hsz5 none 0 ([] : List Int) 0 (by decide) (by decide) (by decide)
 have hk0' : ∀ W : World, (Instr.slice 27 (.slice none 0 0) none (some (.int .i64 0)) none).run Try.prog W = .ok (.slice none 0 0) W := hk0
 have hz0 : ¬ n < 0 := by omega
 by_cases hp : 0 < n
 ·have hl : (List.replicate n.toNat (0 : Int)).length = n.toNat := List.length_replicate ..
  go_enter Try.func48, Try.ntmps48
  go_wp2_with ((with_reducible refine gate_dst (N := 22) rfl ?_); refine Kd.R_append_zeros (Kd.int .u8) (w0 := w) w.heap.size rfl _ _ 27 3 5 (.int .u8 0) 1 rfl Try.underlying27 Try.underlying3 info5 rfl (by decide) (by decide) (.slice none 0 0) [] 0 n (fun _ => True) rfl rfl rfl (fun _ _ => trivial) (Kd.R_nil _ _ _ _ _) (by omega) (Below.refl _ _) (Nat.le_refl _) (by simp; omega) ?_; intro v1 w1 ho hb hg hat; obtain ⟨g, cap, rfl, hrest⟩ := Kd.R_form ho (by simp; omega); clear hrest hg hat; rw [List.nil_append, hl] at ho ⊢; obtain ⟨hk1, -, -⟩ := print_take_of (P := Try.prog) (Value.int .u8) (0 : Int) 27 5 .i64 Try.underlying27 hi5 hsz5 (some ⟨g, 0, none⟩) cap (List.replicate n.toNat (0 : Int)) 0 (by decide) (by omega) (by obtain ⟨_, hown⟩ := Kd.R_own ho; rw [hl]; exact own_le hown); rw [hl] at hk1; have HO1 := Aside0.mk ho; have HB1 := Aside0.mk hb; clear ho hb)
  go_ret
  exact ⟨_, rfl, by have h := Kd.R_take (m := 0) HO1.out (Nat.zero_le _); exact h, HB1.out⟩
 ·obtain rfl : n = 0 := by omega
  go_enter Try.func48, Try.ntmps48
  go_wp2
  go_ret
  exact ⟨_, rfl, Kd.R_nil _ _ _ _ _, Below.refl _ _⟩
theorem concat_at {w : World} {A : Option Addr} {n : Nat} {xs : List (List Int)} (h : Kd.C (Kd.slice 5 (Kd.int .u8)) w A n xs) (k : Nat) (h1 : k < n) : ∃ ad A0 c0, A = some ad ∧ w.cell? (ad.add k) = some (.slice A0 (xs.getD k []).length c0) ∧ (xs.getD k []).length ≤ c0 ∧ (Kd.int .u8).C w A0 (xs.getD k []).length (xs.getD k []) := by
 obtain ⟨ad, c, e, _, hK, hc0⟩ := Kd.C_get h ([] : List Int) (k : Int) (by omega) (by omega)
 have hc : ∀ j u, c[j]? = some u → w.cell? (ad.add (k * 1 + j)) = some u := hc0
 obtain ⟨A0, c0, rfl, l0, g0⟩ := hK
 exact ⟨ad, A0, c0, e, by have hq := hc 0 _ rfl; rwa [Nat.mul_one, Nat.add_zero] at hq, l0, g0⟩
theorem take_flat (xs : List (List Int)) (k : Nat) (h : k < xs.length) : (xs.take (k + 1)).flatten = (xs.take k).flatten ++ xs.getD k [] := by
 rw [List.take_add_one, List.flatten_append, List.getD_eq_getElem?_getD, List.getElem?_eq_getElem h]; simp
theorem take_flat_le (xs : List (List Int)) (k : Nat) : (xs.take k).flatten.length ≤ xs.flatten.length := by
 have h : xs.flatten = (xs.take k).flatten ++ (xs.drop k).flatten := by rw [← List.flatten_append, List.take_append_drop]
 rw [h, List.length_append]; omega
/-- How many bytes the first rows have. -/
def catLen (xs : List (List Int)) (k : Nat) : Nat := (xs.take k).flatten.length
theorem catLen_succ (xs : List (List Int)) (k : Nat) (h : k < xs.length) : catLen xs (k + 1) = catLen xs k + (xs.getD k []).length := by
 unfold catLen; rw [take_flat xs k h, List.length_append]
theorem catLen_le (xs : List (List Int)) (k : Nat) : catLen xs k ≤ catLen xs xs.length := by
 unfold catLen; rw [List.take_length]; exact take_flat_le xs k
def slices_Concat_byte_byte.f (l0 : List (List Int)) : Option (List Int) := if catLen l0 l0.length < 140737488355000 ∧ l0.length < 140737488355000 then some l0.flatten else none
set_option maxHeartbeats 2000000 in
set_option maxRecDepth 100000 in
theorem slices_Concat_byte_byte.calls (A0 : Option Addr) (c0 : Nat) (l0 : List (List Int)) (r : List Int) (w : World) (hr0 : Kd.C (Kd.slice 5 (Kd.int .u8)) w A0 l0.length l0) (hc0 : l0.length ≤ c0) (h : slices_Concat_byte_byte.f l0 = some r) :
  Calls Try.prog 46 #[.slice A0 l0.length c0] w fun e w' => ∃ v0_ : Value, e = .returned (v0_) ∧ Kd.R (Kd.int .u8) 5 w' w.heap.size (fun _ => True) v0_ r ∧ Below w.heap.size w w' := by
 have HR0 := Aside0.mk hr0
 have HC0 := Aside0.mk hc0
 clear hr0 hc0
 unfold slices_Concat_byte_byte.f at h
 by_cases hl : catLen l0 l0.length < 140737488355000 ∧ l0.length < 140737488355000
 ·rw [if_pos hl] at h
  obtain rfl := Option.some.inj h
  clear h
  obtain ⟨hl, hl2⟩ := hl
  go_enter Try.func46, Try.ntmps46
  go_wp2
  go_loop [3, 11] (fun s j => ∃ k : Nat, k ≤ l0.length ∧ j = .int .i64 k ∧ s = .int .i64 (catLen l0 k)) (fun _ j => l0.length - (intOf j).toNat)
  case atStart => exact ⟨0, by omega, rfl, by simp [catLen]⟩
  case round =>
   obtain ⟨k, hk, rfl, rfl⟩ := hrel
   by_cases hlt : k < l0.length
   ·obtain ⟨ad, A1, c1, rfl, hx, hc1, hr1⟩ := concat_at HR0.out k hlt
    have hle := catLen_le l0 (k + 1)
    have hs := catLen_succ l0 k hlt
    generalize hE : (l0.getD k []).length = E at *
    clear hr1
    go_wp2
    go_round
    case rel => exact ⟨k + 1, by omega, by go_num, by rw [hs]; go_num⟩
    case measure => simp [intOf]; omega
   ·obtain rfl : k = l0.length := by omega
    go_wp2_with (go_at_call 48; refine (grow_nil (catLen l0 l0.length : Int) (by omega) (by omega) _).mono ?_; rintro e w3 ⟨v3, rfl, ho, hb⟩; have HO3 := Aside0.mk ho; have HB3 := Aside0.mk hb; clear ho hb)
    go_loopw [6, 27] (fun v j wr => ∃ k : Nat, k ≤ l0.length ∧ j = .int .i64 k ∧ Aside0 (Kd.R (Kd.int .u8) 5 wr w.heap.size (fun _ => True) v (l0.take k).flatten) ∧ Aside0 (Below w.heap.size w wr)) (fun _ j _ => l0.length - (intOf j).toNat)
    case atStart => exact ⟨0, by omega, rfl, HO3, HB3⟩
    case round =>
     obtain ⟨k, hk, rfl, HO4, HB4⟩ := hrel
     by_cases hlt : k < l0.length
     ·obtain ⟨ad, A1, c1, rfl, hx, hc1, hr1⟩ := concat_at (Kd.C_below HR0.out HB4.out) k hlt
      have hle := catLen_le l0 (k + 1)
      have hs := catLen_succ l0 k hlt
      have hck : (l0.take k).flatten.length = catLen l0 k := rfl
      have hfl := take_flat l0 k hlt
      generalize l0.getD k [] = x at *
      have HFL := Aside0.mk hfl
      clear hfl
      have HR1 := Aside0.mk hr1
      clear hr1
      go_wp2_with ((with_reducible refine gate_dst (N := 33) rfl ?_); refine Kd.R_append_row (w0 := w) (Value.int .u8) (0 : Int) w.heap.size rfl _ _ 27 5 (.int .u8 0) 1 rfl Try.underlying27 info5 rfl (by decide) _ (l0.take k).flatten x A1 x.length c1 (fun _ => True) rfl rfl (fun _ _ => trivial) HO4.out HR1.out HB4.out (HB4.out.size) (by rw [hck]; omega) ?_; intro v5 w5 ho5 hb5 hg5 hat5; rw [← HFL.out] at ho5; have HO5 := Aside0.mk ho5; have HB5 := Aside0.mk hb5; clear ho5 hb5 hg5 hat5)
      go_roundw
      case rel => exact ⟨k + 1, by omega, by go_num, HO5, HB5⟩
      case measure => simp [intOf]; omega
     ·obtain rfl : k = l0.length := by omega
      go_wp2
      go_ret
      exact ⟨_, rfl, by have h := HO4.out; rw [List.take_length] at h; exact h, HB4.out⟩
 ·rw [if_neg hl] at h
  exact absurd h (by simp)

end Go.Proofs.Ytgpacbklpmloaaa.Print
