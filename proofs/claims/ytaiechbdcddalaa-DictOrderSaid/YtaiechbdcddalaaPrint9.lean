/- Words of the print, of which only those stand here that this claim names. -/
-- Written by a program of this session (wip/cprint.py), which calls the kit's print and adds contracts proved by hand.
import Derived.Test.YtaiechbdcddalaaPrint0
import Derived.Test.YtaiechbdcddalaaPrint1
import Derived.Test.YtaiechbdcddalaaPrint3
import Derived.Test.YtaiechbdcddalaaPrint7
import Derived.Test.YtaiechbdcddalaaPrint8
namespace Go.Proofs.Ytaiechbdcddalaa.Print
open Go.RowKit Go.Proofs.YtaiechbdcddalaaW.PrintWords Go.Proofs.YtaiechbdcddalaaW.PrintLast Go.Proofs.YtaiechbdcddalaaW.PrintMore
attribute [local go_sem] max2_int min2_int max_two min_two max_three min_three max_four min_four   -- for this text's walks alone
set_option linter.unusedVariables false
set_option linter.unusedSimpArgs false

/-! ### creellaw16_rise: function 11 -/
def creellaw16_rise.l0 : Nat → List (List Int) → List (List Int) → Int → Int → Option ((List (List Int)))
 | 0, _, _, _, _ => none
 | k + 1, x3, x7, x8, x9 => if x9 < x8 then (if 0 ≤ x9 then (if x9 < (x7.length : Int) then (if ((rd_L1 x7 x9).length : Int) ≥ 1 then (if ((rd_L1 x7 x9).length : Int) ≤ 32 then (if x3.length < 5864062014805 then (creellaw16_rise.l0 k (x3 ++ [rd_L1 x7 x9]) x7 x8 (wrap64 (x9 + 1))) else (none)) else (creellaw16_rise.l0 k x3 x7 x8 (wrap64 (x9 + 1)))) else (creellaw16_rise.l0 k x3 x7 x8 (wrap64 (x9 + 1)))) else (none)) else (none)) else ((creelref14_Sorted.f x3).bind fun t285 => (some t285))
def creellaw16_rise.f (k : Nat) (l0 : List (List Int)) : Option ((List (List Int))) := (creellaw16_few.f k l0).bind fun t278 => (creellaw16_rise.l0 k ([] : List (List Int)) t278 (t278.length : Int) 0)
set_option maxHeartbeats 8000000 in
set_option maxRecDepth 100000 in
theorem creellaw16_rise.calls (k : Nat) (P0_ : Nat → Prop) (A0 : Option Addr) (c0 : Nat) (l0 : List (List Int)) (r : List (List Int)) (w : World) (hs0 : Kd.V (Kd.slice 5 (Kd.int .u8)) 26 w w.heap.size (fun k_ => P0_ k_) (.slice A0 l0.length c0) l0) (h : creellaw16_rise.f k l0 = some r) :
  Calls Try.prog 11 #[.slice A0 l0.length c0] w fun e w' => ∃ v0_ : Value, e = .returned (v0_) ∧ Kd.N (Kd.slice 5 (Kd.int .u8)) 26 w' w.heap.size (fun k_ => (P0_ k_ ∨ w.heap.size ≤ k_)) v0_ r ∧ Below w.heap.size w w' := by
 have HO0 := Aside0.mk (show Kd.V (Kd.slice 5 (Kd.int .u8)) 26 w w.heap.size (fun k_ => (P0_ k_ ∨ w.heap.size ≤ k_)) (.slice A0 l0.length c0) l0 from Kd.V_mono hs0 (fun k_ hk => .inl hk))
 have HB := Aside0.mk (Below.refl w.heap.size w)
 have H : ((creellaw16_few.f k l0).bind fun t278 => (creellaw16_rise.l0 k ([] : List (List Int)) t278 (t278.length : Int) 0)) = some r := h
 clear h
 replace H := Option.bind_eq_some_iff.mp H
 obtain ⟨t278, A20, H⟩ := H
 replace H : (creellaw16_rise.l0 k ([] : List (List Int)) t278 (t278.length : Int) 0) = some r := H
 have A2 := Aside0.mk A20
 clear A20
 have H' := Aside0.mk H
 clear H
 go_enter Try.func11, Try.ntmps11
 go_wp2_with (first | ((with_reducible refine gate_callee (f := 10) rfl ?_); refine goesL_ (some 7) rfl rfl Try.func10 (by kernel_rfl) rfl #[.slice A0 l0.length c0] rfl (by (try simp only [List.map_toArray, List.map_cons, List.map_nil]); first | done | rfl | (simp only [List.length_drop, List.length_take]; rfl)) ?_; (with_reducible refine (creellaw16_few.calls k (fun k_ => (P0_ k_ ∨ w.heap.size ≤ k_)) _ _ l0 t278 _ ?side1 A2.out).mono ?_); (case side1 => exact HO0.out); rintro e w3 ⟨v279, rfl, ho0, hb⟩; refine ⟨_, rfl, ?_⟩; have n0_ := Aside0.mk (Kd.V_elder' (by (with_reducible repeat (first | apply Kd.V_alloc | apply Kd.V_drewN | apply Kd.V_drew)); exact HO0.out) (by first | exact Kd.N_base ho0 | exact Kd.N_base (Kd.S_N (Kd.S_bound ho0))) hb); have n1_ := Aside0.mk (Kd.N_lower (Kd.N_mono (ok' := fun k_ => (P0_ k_ ∨ w.heap.size ≤ k_)) ho0 (fun k_ hk_ => Or.elim hk_ (fun hs_ => hs_) (fun hn_ => (.inr (Nat.le_trans (below_size (by repeat (first | (with_reducible first | exact HB.out | apply below_alloc | apply pw_below_drewN | apply below_drew1) | exact HB.out))) hn_))))) (below_size (by repeat (first | (with_reducible first | exact HB.out | apply below_alloc | apply pw_below_drewN | apply below_drew1) | exact HB.out)))); have n2_ := Aside0.mk (below_step (by repeat (first | (with_reducible first | exact HB.out | apply below_alloc | apply pw_below_drewN | apply below_drew1) | exact HB.out)) hb); clear HO0; clear HB; have HO0 := n0_; have HO280 := n1_; have HB := n2_; clear n0_ n1_ n2_; (try clear hb); (try clear hb2); (try clear hk); (try clear hi); (try clear ho0); obtain ⟨Ao4, co4, eo4⟩ := Kd.N_slice HO280.out; subst eo4))
 go_loopg [3, 9] k (fun kq v3 v9 w' => ∃ (x3_1 : List (List Int)) (x9_1 : Int), v9 = .int .i64 x9_1 ∧ Aside0 (creellaw16_rise.l0 kq x3_1 t278 (t278.length : Int) x9_1 = some r) ∧ Aside0 (kq ≤ k) ∧ Aside0 (Kd.N (Kd.slice 5 (Kd.int .u8)) 26 w' w.heap.size (fun k_ => (P0_ k_ ∨ w.heap.size ≤ k_) ∧ some k_ ≠ ((.slice Ao4 t278.length co4) : Value).ownBlock) v3 x3_1) ∧ Aside0 (Kd.N (Kd.slice 5 (Kd.int .u8)) 26 w' w.heap.size (fun k_ => (P0_ k_ ∨ w.heap.size ≤ k_) ∧ some k_ ≠ (v3 : Value).ownBlock) (.slice Ao4 t278.length co4) t278) ∧ Aside0 (Below w.heap.size w w'))
 case atStart => exact ⟨(([] : List (List Int))), (0), (by first | rfl | (simp; done) | (simp [*]; done)), H', ⟨Nat.le_refl _⟩, ⟨by first | exact Kd.S_nil _ _ _ _ _ | exact Kd.N_nil _ _ _ _ _ | exact Kd.V_nil _ _ _ _ _ | exact Kd.Q_nil _ _ _ _ _ | exact Kd.R_nil _ _ _ _ _⟩, ⟨by (with_reducible repeat (first | apply Kd.N_alloc | apply Kd.N_drewN | apply Kd.N_drew)); exact Kd.N_mono HO280.out (fun _ hk => ⟨hk, (by simp [Value.ownBlock])⟩)⟩, ⟨by repeat (first | (with_reducible first | exact HB.out | apply below_alloc | apply pw_below_drewN | apply below_drew1) | exact HB.out)⟩⟩
 case round =>
  clear H'
  try clear c1
  try clear p2
  obtain ⟨x3_1, x9_1, rfl, HA, HK1, HO_3, HO_7, HB⟩ := hrel
  cases gk with
  | zero => exact absurd HA.out (by simp [creellaw16_rise.l0])
  | succ k1 =>
   have H := HA.out
   clear HA
   simp only [creellaw16_rise.l0] at H
   by_cases c5 : x9_1 < (t278.length : Int)
   ·rw [if_pos c5] at H
    have c5b0 : decide (x9_1 < (t278.length : Int)) = true := decide_eq_true c5
    clear c5
    by_cases c6 : 0 ≤ x9_1
    ·rw [if_pos c6] at H
     have c6b0 : decide (0 ≤ x9_1) = true := decide_eq_true c6
     clear c6
     by_cases c7 : x9_1 < (t278.length : Int)
     ·rw [if_pos c7] at H
      have c7b0 : decide (x9_1 < (t278.length : Int)) = true := decide_eq_true c7
      clear c7
      by_cases c8 : ((rd_L1 t278 x9_1).length : Int) ≥ 1
      ·rw [if_pos c8] at H
       have c8b0 : decide (1 ≤ ((rd_L1 t278 x9_1).length : Int)) = true := decide_eq_true c8
       have c8b1 : decide (1 ≤ (rd_L1 t278 x9_1).length) = true := decide_eq_true (by omega)
       clear c8
       by_cases c9 : ((rd_L1 t278 x9_1).length : Int) ≤ 32
       ·rw [if_pos c9] at H
        have c9b0 : decide (((rd_L1 t278 x9_1).length : Int) ≤ 32) = true := decide_eq_true c9
        have c9b1 : decide ((rd_L1 t278 x9_1).length ≤ 32) = true := decide_eq_true (by omega)
        clear c9
        by_cases c10 : x3_1.length < 5864062014805
        ·rw [if_pos c10] at H
         have LMc10 := Aside0.mk c10
         clear c10
         obtain ⟨y282, hy282⟩ : ∃ y_ : List (List Int), y_ = (x3_1 ++ [rd_L1 t278 x9_1]) := ⟨_, rfl⟩
         replace H : (creellaw16_rise.l0 k1 y282 t278 (t278.length : Int) (wrap64 (x9_1 + 1))) = some r := by first | (rw [hy282]; with_reducible exact H) | (have H2_ := (Option.bind_some _ _).symm.trans H; rw [hy282]; with_reducible exact H2_) | (have H2_ := (Option.bind_some _ _).symm.trans H; with_reducible exact H2_) | with_reducible exact H | (rw [hy282]; exact H) | exact H
         have Ny282 := Aside0.mk hy282
         clear hy282
         have H' := Aside0.mk H
         clear H
         have p281 : 0 ≤ (x9_1 : Int) := of_decide_eq_true (by first | (with_reducible assumption) | assumption)
         have q281 : x9_1 < (t278.length : Int) := of_decide_eq_true (by first | (with_reducible assumption) | assumption)
         obtain ⟨ad281, A281_0, c281_0, e281, hx281_0, hl281_0, hi281_0⟩ := at_L1 (Kd.N_reads' HO_7.out).2.2 x9_1 p281 q281
         cases e281
         obtain ⟨ce281, hce281, hMe281, hcc281⟩ := Kd.N_get HO_7.out [] x9_1 p281 (by first | exact q281 | exact of_decide_eq_true (by first | (with_reducible assumption) | assumption) | (have e_ := (Kd.N_reads' HO_7.out).1; omega))
         obtain ⟨ua281_0, uc281_0, rfl, ul281_0, ge281_0⟩ := Kd.FK_slice_open hMe281
         have hv281_0 := hcc281 0 _ rfl
         rw [Nat.add_zero, show ((Kd.slice 5 (Kd.int .u8))).sz = 1 from rfl, Nat.mul_one] at hv281_0
         replace hv281_0 := Option.some.inj (hv281_0.symm.trans hx281_0)
         injection hv281_0 with hva_ hvn_ hvc_
         rw [hva_] at ge281_0
         rw [hvc_] at ul281_0
         have HL281_0 := Aside0.mk (show Kd.V (Kd.int .u8) 5 _ w.heap.size _ _ (rd_L1 t278 x9_1) from Kd.V_mk ul281_0 ge281_0)
         clear hva_ hvn_ hvc_ ge281_0 ul281_0
         clear hcc281 hce281
         have HR281_0 := Aside0.mk hi281_0
         have HC281_0 := Aside0.mk hl281_0
         clear hi281_0 hl281_0
         replace p281 := eq_true p281
         replace q281 := eq_true q281
         go_wp2_with (first | ((with_reducible refine gate_builtin (b := .append) (xs := #[.tmp 21, .tmp 23]) rfl ?_); (try (refine gate_guard (by rfl) ?_; dsimp only)); at_builtin; refine Kd.N_append (Kd.slice 5 (Kd.int .u8)) (w0 := w) w.heap.size rfl (.tmp 21) (.tmp 23) 22 26 (.slice none 0 0) 24 rfl Try.underlying22 info26 rfl (by decide) (by omega) u3 x3_1 (rd_L1 t278 x9_1) [.slice A281_0 (rd_L1 t278 x9_1).length c281_0] (fun k_ => (P0_ k_ ∨ w.heap.size ≤ k_) ∧ some k_ ≠ (.slice (some ad281) t278.length co4 : Value).ownBlock) (fun k_ => ((fun k_ => (P0_ k_ ∨ w.heap.size ≤ k_) ∧ some k_ ≠ (.slice (some ad281) t278.length co4 : Value).ownBlock)) k_ ∧ some k_ ≠ (u3 : Value).ownBlock) rfl rfl ?aP (fun _ hk => hk) ?aF ?aO ?aB ?aS ?aL ?_; (case aP => exact (Kd.FK_slice_mk (Kd.V_reads' (Kd.V_mono (ok' := (fun k_ => ((fun k_ => (P0_ k_ ∨ w.heap.size ≤ k_) ∧ some k_ ≠ (.slice (some ad281) t278.length co4 : Value).ownBlock)) k_ ∧ some k_ ≠ (u3 : Value).ownBlock)) (HL281_0.out) (fun k_ hk => ⟨⟨hk.1.1, hk.2⟩, hk.1.2⟩))).2.1 (Kd.V_F (Kd.V_mono (ok' := (fun k_ => ((fun k_ => (P0_ k_ ∨ w.heap.size ≤ k_) ∧ some k_ ≠ (.slice (some ad281) t278.length co4 : Value).ownBlock)) k_ ∧ some k_ ≠ (u3 : Value).ownBlock)) (HL281_0.out) (fun k_ hk => ⟨⟨hk.1.1, hk.2⟩, hk.1.2⟩))))); (case aB => exact (by repeat (first | (with_reducible first | exact HB.out | apply below_alloc | apply pw_below_drewN | apply below_drew1) | exact HB.out))); (case aF => exact (fun k_ hk => ⟨(.inr (Nat.le_trans (below_size (by repeat (first | (with_reducible first | exact HB.out | apply below_alloc | apply pw_below_drewN | apply below_drew1) | exact HB.out))) hk)), Kd.fresh' (Kd.N_lt (by (with_reducible repeat (first | apply Kd.N_alloc | apply Kd.N_drewN | apply Kd.N_drew)); exact HO_7.out)) k_ hk⟩)); (case aO => exact (by (with_reducible repeat (first | apply Kd.N_alloc | apply Kd.N_drewN | apply Kd.N_drew)); exact HO_3.out)); (case aS => exact (below_size (by repeat (first | (with_reducible first | exact HB.out | apply below_alloc | apply pw_below_drewN | apply below_drew1) | exact HB.out)))); (case aL => have := LMc10.out; omega); intro v283 w11 ho hb hg hat; rw [← Ny282.out] at ho; have n0_ := Aside0.mk (Kd.N_afterv (ok := (fun k_ => (P0_ k_ ∨ w.heap.size ≤ k_))) (by (with_reducible repeat (first | apply Kd.N_alloc | apply Kd.N_drewN | apply Kd.N_drew)); exact HO_7.out) hg hat); have n1_ := Aside0.mk (Kd.V_afterv (ok := (fun k_ => (P0_ k_ ∨ w.heap.size ≤ k_) ∧ some k_ ≠ (.slice (some ad281) t278.length co4 : Value).ownBlock)) (by (with_reducible repeat (first | apply Kd.V_alloc | apply Kd.V_drewN | apply Kd.V_drew)); exact Kd.V_mono HL281_0.out (fun _ hk => ⟨⟨hk.1.1, hk.2⟩, hk.1.2⟩)) hg hat); have n2_ := Aside0.mk (hb); have n3_ := Aside0.mk (ho); clear HO_7; clear HL281_0; clear HB; clear HO_3; have HO_7 := n0_; have HL281_0 := n1_; have HB := n2_; have HO284 := n3_; clear n0_ n1_ n2_ n3_; clear ho hb hg hat))
         go_roundg k1
         case measure => have := HK1.out; omega
         case rel => exact ⟨(y282), (wrap64 (x9_1 + 1)), (by first | rfl | (simp; done) | (simp [*]; done)), H', ⟨by have := HK1.out; omega⟩, ⟨by (with_reducible repeat (first | apply Kd.N_alloc | apply Kd.N_drewN | apply Kd.N_drew)); exact HO284.out⟩, ⟨by (with_reducible repeat (first | apply Kd.N_alloc | apply Kd.N_drewN | apply Kd.N_drew)); exact HO_7.out⟩, ⟨by repeat (first | (with_reducible first | exact HB.out | apply below_alloc | apply pw_below_drewN | apply below_drew1) | exact HB.out)⟩⟩
        ·rw [if_neg c10] at H
         exact absurd H (by simp)
       ·rw [if_neg c9] at H
        have c9b0 : decide (((rd_L1 t278 x9_1).length : Int) ≤ 32) = false := decide_eq_false c9
        have c9b1 : decide ((rd_L1 t278 x9_1).length ≤ 32) = false := decide_eq_false (by omega)
        clear c9
        have H' := Aside0.mk H
        clear H
        have p281 : 0 ≤ (x9_1 : Int) := of_decide_eq_true (by first | (with_reducible assumption) | assumption)
        have q281 : x9_1 < (t278.length : Int) := of_decide_eq_true (by first | (with_reducible assumption) | assumption)
        obtain ⟨ad281, A281_0, c281_0, e281, hx281_0, hl281_0, hi281_0⟩ := at_L1 (Kd.N_reads' HO_7.out).2.2 x9_1 p281 q281
        cases e281
        obtain ⟨ce281, hce281, hMe281, hcc281⟩ := Kd.N_get HO_7.out [] x9_1 p281 (by first | exact q281 | exact of_decide_eq_true (by first | (with_reducible assumption) | assumption) | (have e_ := (Kd.N_reads' HO_7.out).1; omega))
        obtain ⟨ua281_0, uc281_0, rfl, ul281_0, ge281_0⟩ := Kd.FK_slice_open hMe281
        have hv281_0 := hcc281 0 _ rfl
        rw [Nat.add_zero, show ((Kd.slice 5 (Kd.int .u8))).sz = 1 from rfl, Nat.mul_one] at hv281_0
        replace hv281_0 := Option.some.inj (hv281_0.symm.trans hx281_0)
        injection hv281_0 with hva_ hvn_ hvc_
        rw [hva_] at ge281_0
        rw [hvc_] at ul281_0
        have HL281_0 := Aside0.mk (show Kd.V (Kd.int .u8) 5 _ w.heap.size _ _ (rd_L1 t278 x9_1) from Kd.V_mk ul281_0 ge281_0)
        clear hva_ hvn_ hvc_ ge281_0 ul281_0
        clear hcc281 hce281
        have HR281_0 := Aside0.mk hi281_0
        have HC281_0 := Aside0.mk hl281_0
        clear hi281_0 hl281_0
        replace p281 := eq_true p281
        replace q281 := eq_true q281
        go_wp2
        go_roundg k1
        case measure => have := HK1.out; omega
        case rel => exact ⟨(x3_1), (wrap64 (x9_1 + 1)), (by first | rfl | (simp; done) | (simp [*]; done)), H', ⟨by have := HK1.out; omega⟩, ⟨by (with_reducible repeat (first | apply Kd.N_alloc | apply Kd.N_drewN | apply Kd.N_drew)); exact HO_3.out⟩, ⟨by (with_reducible repeat (first | apply Kd.N_alloc | apply Kd.N_drewN | apply Kd.N_drew)); exact HO_7.out⟩, ⟨by repeat (first | (with_reducible first | exact HB.out | apply below_alloc | apply pw_below_drewN | apply below_drew1) | exact HB.out)⟩⟩
      ·rw [if_neg c8] at H
       have c8b0 : decide (1 ≤ ((rd_L1 t278 x9_1).length : Int)) = false := decide_eq_false c8
       have c8b1 : decide (1 ≤ (rd_L1 t278 x9_1).length) = false := decide_eq_false (by omega)
       clear c8
       have H' := Aside0.mk H
       clear H
       have p281 : 0 ≤ (x9_1 : Int) := of_decide_eq_true (by first | (with_reducible assumption) | assumption)
       have q281 : x9_1 < (t278.length : Int) := of_decide_eq_true (by first | (with_reducible assumption) | assumption)
       obtain ⟨ad281, A281_0, c281_0, e281, hx281_0, hl281_0, hi281_0⟩ := at_L1 (Kd.N_reads' HO_7.out).2.2 x9_1 p281 q281
       cases e281
       obtain ⟨ce281, hce281, hMe281, hcc281⟩ := Kd.N_get HO_7.out [] x9_1 p281 (by first | exact q281 | exact of_decide_eq_true (by first | (with_reducible assumption) | assumption) | (have e_ := (Kd.N_reads' HO_7.out).1; omega))
       obtain ⟨ua281_0, uc281_0, rfl, ul281_0, ge281_0⟩ := Kd.FK_slice_open hMe281
       have hv281_0 := hcc281 0 _ rfl
       rw [Nat.add_zero, show ((Kd.slice 5 (Kd.int .u8))).sz = 1 from rfl, Nat.mul_one] at hv281_0
       replace hv281_0 := Option.some.inj (hv281_0.symm.trans hx281_0)
       injection hv281_0 with hva_ hvn_ hvc_
       rw [hva_] at ge281_0
       rw [hvc_] at ul281_0
       have HL281_0 := Aside0.mk (show Kd.V (Kd.int .u8) 5 _ w.heap.size _ _ (rd_L1 t278 x9_1) from Kd.V_mk ul281_0 ge281_0)
       clear hva_ hvn_ hvc_ ge281_0 ul281_0
       clear hcc281 hce281
       have HR281_0 := Aside0.mk hi281_0
       have HC281_0 := Aside0.mk hl281_0
       clear hi281_0 hl281_0
       replace p281 := eq_true p281
       replace q281 := eq_true q281
       go_wp2
       go_roundg k1
       case measure => have := HK1.out; omega
       case rel => exact ⟨(x3_1), (wrap64 (x9_1 + 1)), (by first | rfl | (simp; done) | (simp [*]; done)), H', ⟨by have := HK1.out; omega⟩, ⟨by (with_reducible repeat (first | apply Kd.N_alloc | apply Kd.N_drewN | apply Kd.N_drew)); exact HO_3.out⟩, ⟨by (with_reducible repeat (first | apply Kd.N_alloc | apply Kd.N_drewN | apply Kd.N_drew)); exact HO_7.out⟩, ⟨by repeat (first | (with_reducible first | exact HB.out | apply below_alloc | apply pw_below_drewN | apply below_drew1) | exact HB.out)⟩⟩
     ·rw [if_neg c7] at H
      exact absurd H (by simp)
    ·rw [if_neg c6] at H
     exact absurd H (by simp)
   ·rw [if_neg c5] at H
    have c5b0 : decide (x9_1 < (t278.length : Int)) = false := decide_eq_false c5
    clear c5
    replace H := Option.bind_eq_some_iff.mp H
    obtain ⟨t285, A120, H⟩ := H
    replace H : (some t285) = some r := H
    have A12 := Aside0.mk A120
    clear A120
    obtain rfl := Option.some.inj H
    obtain ⟨Ao13, co13, eo13⟩ := Kd.N_slice HO_3.out
    subst eo13
    go_wp2_with (first | ((with_reducible refine gate_callee (f := 24) rfl ?_); refine goesL_ (some 27) rfl rfl Try.func24 (by kernel_rfl) rfl #[.slice Ao13 x3_1.length co13] rfl (by (try simp only [List.map_toArray, List.map_cons, List.map_nil]); first | done | rfl | (simp only [List.length_drop, List.length_take]; rfl)) ?_; (with_reducible refine (creelref14_Sorted.calls (fun k_ => ((P0_ k_ ∨ w.heap.size ≤ k_) ∧ some k_ ≠ (.slice Ao4 t278.length co4 : Value).ownBlock)) _ _ x3_1 t285 _ ?side1 A12.out).mono ?_); (case side1 => exact Kd.N_V (HO_3.out)); rintro e w14 ⟨v286, rfl, ho0, hb⟩; refine ⟨_, rfl, ?_⟩; have n0_ := Aside0.mk (Kd.N_elder' (by (with_reducible repeat (first | apply Kd.N_alloc | apply Kd.N_drewN | apply Kd.N_drew)); exact HO_3.out) (by first | exact Kd.N_base ho0 | exact Kd.N_base (Kd.S_N (Kd.S_bound ho0))) hb); have n1_ := Aside0.mk (Kd.N_elder' (by (with_reducible repeat (first | apply Kd.N_alloc | apply Kd.N_drewN | apply Kd.N_drew)); exact HO_7.out) (by first | exact Kd.N_base ho0 | exact Kd.N_base (Kd.S_N (Kd.S_bound ho0))) hb); have n2_ := Aside0.mk (Kd.N_lower (Kd.N_mono (ok' := fun k_ => (P0_ k_ ∨ w.heap.size ≤ k_) ∧ some k_ ≠ (.slice Ao4 t278.length co4 : Value).ownBlock) ho0 (fun k_ hk_ => ⟨Or.elim hk_ (fun hs_ => hs_.1) (fun hn_ => (.inr (Nat.le_trans (below_size (by repeat (first | (with_reducible first | exact HB.out | apply below_alloc | apply pw_below_drewN | apply below_drew1) | exact HB.out))) hn_))), Or.elim hk_ (fun hs_ => hs_.2) (fun hn_ => (Kd.fresh' (Kd.N_lt (by (with_reducible repeat (first | apply Kd.N_alloc | apply Kd.N_drewN | apply Kd.N_drew)); exact HO_7.out)) k_ hn_))⟩)) (below_size (by repeat (first | (with_reducible first | exact HB.out | apply below_alloc | apply pw_below_drewN | apply below_drew1) | exact HB.out)))); have n3_ := Aside0.mk (below_step (by repeat (first | (with_reducible first | exact HB.out | apply below_alloc | apply pw_below_drewN | apply below_drew1) | exact HB.out)) hb); clear HO_3; clear HO_7; clear HB; have HO_3 := n0_; have HO_7 := n1_; have HO287 := n2_; have HB := n3_; clear n0_ n1_ n2_ n3_; (try clear hb); (try clear hb2); (try clear hk); (try clear hi); (try clear ho0)))
    go_ret
    exact ⟨_, by first | rfl | (simp [errW_none, errW_some] <;> rfl) | (simp [*, errW_none, errW_some] <;> rfl), by (with_reducible repeat (first | apply Kd.N_alloc | apply Kd.N_drewN | apply Kd.N_drew)); exact Kd.N_mono HO287.out (fun _ hk => hk.1), by repeat (first | (with_reducible first | exact HB.out | apply below_alloc | apply pw_below_drewN | apply below_drew1) | exact HB.out)⟩

/-! ### creelref12_Same: function 21 -/
def creelref12_Same.l0 : Nat → List (List Int) → List (List Int) → Int → Option (Bool)
 | 0, _, _, _ => none
 | k + 1, x0, x1, x5 => if x5 < (x0.length : Int) then (if 0 ≤ x5 then (if x5 < (x1.length : Int) then (if (strOfNums (rd_L1 x0 x5)).toList = (strOfNums (rd_L1 x1 x5)).toList then (creelref12_Same.l0 k x0 x1 (wrap64 (x5 + 1))) else (some false)) else (none)) else (none)) else (some true)
def creelref12_Same.f (k : Nat) (l0 : List (List Int)) (l1 : List (List Int)) : Option (Bool) := if (l0.length : Int) = (l1.length : Int) then (creelref12_Same.l0 k l0 l1 0) else (some false)
set_option maxHeartbeats 8000000 in
set_option maxRecDepth 100000 in
theorem creelref12_Same.calls (k : Nat) (A0 : Option Addr) (c0 : Nat) (l0 : List (List Int)) (A1 : Option Addr) (c1 : Nat) (l1 : List (List Int)) (r : Bool) (w : World) (hr0 : Kd.C (Kd.slice 5 (Kd.int .u8)) w A0 l0.length l0) (hc0 : l0.length ≤ c0) (hr1 : Kd.C (Kd.slice 5 (Kd.int .u8)) w A1 l1.length l1) (hc1 : l1.length ≤ c1) (h : creelref12_Same.f k l0 l1 = some r) :
  Calls Try.prog 21 #[.slice A0 l0.length c0, .slice A1 l1.length c1] w fun e w' => e = .returned (.bool r) ∧ Drawn0 w w' := by
 have HR0 := Aside0.mk hr0
 have HC0 := Aside0.mk hc0
 clear hr0 hc0
 have HR1 := Aside0.mk hr1
 have HC1 := Aside0.mk hc1
 clear hr1 hc1
 have H : (if (l0.length : Int) = (l1.length : Int) then (creelref12_Same.l0 k l0 l1 0) else (some false)) = some r := h
 clear h
 by_cases c3 : (l0.length : Int) = (l1.length : Int)
 ·rw [if_pos c3] at H
  have c3b0 : ((l0.length : Int) == (l1.length : Int)) = true := beq_iff_eq.mpr c3
  have c3b1 : ((l0.length : Int) != (l1.length : Int)) = false := bne_eq_false_iff_eq.mpr c3
  have c3b2 : (l0.length == l1.length) = true := by first | simpa using c3 | (simp at c3 ⊢; omega)
  clear c3
  have H' := Aside0.mk H
  clear H
  go_enter Try.func21, Try.ntmps21
  go_wp2
  repeat (go_quiet (fail); try go_wp2)
  go_loopg [5] k (fun kq v5 w' => ∃ (x5_1 : Int), v5 = .int .i64 x5_1 ∧ Aside0 (creelref12_Same.l0 kq l0 l1 x5_1 = some r) ∧ Aside0 (kq ≤ k) ∧ Drawn0 w w')
  case atStart => exact ⟨(0), (by first | rfl | (simp; done) | (simp [*]; done)), H', ⟨Nat.le_refl _⟩, by repeat (first | exact Drawn0.refl _ | apply Drawn0.step)⟩
  case round =>
   clear H'
   try clear c1
   try clear c2
   try clear p2
   try clear c3
   try clear c3b0
   try clear c3b1
   try clear c3b2
   obtain ⟨x5_1, rfl, HA, HK1, ⟨m1, rfl⟩⟩ := hrel
   cases gk with
   | zero => exact absurd HA.out (by simp [creelref12_Same.l0])
   | succ k1 =>
    have H := HA.out
    clear HA
    simp only [creelref12_Same.l0] at H
    by_cases c4 : x5_1 < (l0.length : Int)
    ·rw [if_pos c4] at H
     have c4b0 : decide (x5_1 < (l0.length : Int)) = true := decide_eq_true c4
     clear c4
     by_cases c5 : 0 ≤ x5_1
     ·rw [if_pos c5] at H
      have c5b0 : decide (0 ≤ x5_1) = true := decide_eq_true c5
      clear c5
      by_cases c6 : x5_1 < (l1.length : Int)
      ·rw [if_pos c6] at H
       have c6b0 : decide (x5_1 < (l1.length : Int)) = true := decide_eq_true c6
       clear c6
       by_cases c7 : (strOfNums (rd_L1 l0 x5_1)).toList = (strOfNums (rd_L1 l1 x5_1)).toList
       ·rw [if_pos c7] at H
        have c7b0 : ((strOfNums (rd_L1 l0 x5_1)).toList == (strOfNums (rd_L1 l1 x5_1)).toList) = true := beq_iff_eq.mpr c7
        have c7b1 : ((strOfNums (rd_L1 l0 x5_1)).toList != (strOfNums (rd_L1 l1 x5_1)).toList) = false := bne_eq_false_iff_eq.mpr c7
        clear c7
        have H' := Aside0.mk H
        clear H
        have p288 : 0 ≤ (x5_1 : Int) := of_decide_eq_true (by first | (with_reducible assumption) | assumption)
        have q288 : x5_1 < (l0.length : Int) := of_decide_eq_true (by first | (with_reducible assumption) | assumption)
        obtain ⟨ad288, A288_0, c288_0, e288, hx288_0, hl288_0, hi288_0⟩ := at_L1 HR0.out x5_1 p288 q288
        cases e288
        have HR288_0 := Aside0.mk hi288_0
        have HC288_0 := Aside0.mk hl288_0
        clear hi288_0 hl288_0
        replace p288 := eq_true p288
        replace q288 := eq_true q288
        have hcv8 := Kd.C_string (P := Try.prog) (A := A288_0) (c := c288_0) Try.underlying26 Try.underlying5 Try.underlying9 HR288_0.out
        have hcv8d := fun n_ : Nat => Kd.C_string (P := Try.prog) (A := A288_0) (c := c288_0) Try.underlying26 Try.underlying5 Try.underlying9 (Kd.C_drewN HR288_0.out n_)
        have hcv8e := fun n_ m_ : Nat => Kd.C_string (P := Try.prog) (A := A288_0) (c := c288_0) Try.underlying26 Try.underlying5 Try.underlying9 (Kd.C_drewN (Kd.C_drewN HR288_0.out n_) m_)
        have p289 : 0 ≤ (x5_1 : Int) := of_decide_eq_true (by first | (with_reducible assumption) | assumption)
        have q289 : x5_1 < (l1.length : Int) := of_decide_eq_true (by first | (with_reducible assumption) | assumption)
        obtain ⟨ad289, A289_0, c289_0, e289, hx289_0, hl289_0, hi289_0⟩ := at_L1 HR1.out x5_1 p289 q289
        cases e289
        have HR289_0 := Aside0.mk hi289_0
        have HC289_0 := Aside0.mk hl289_0
        clear hi289_0 hl289_0
        replace p289 := eq_true p289
        replace q289 := eq_true q289
        have hcv9 := Kd.C_string (P := Try.prog) (A := A289_0) (c := c289_0) Try.underlying26 Try.underlying5 Try.underlying9 HR289_0.out
        have hcv9d := fun n_ : Nat => Kd.C_string (P := Try.prog) (A := A289_0) (c := c289_0) Try.underlying26 Try.underlying5 Try.underlying9 (Kd.C_drewN HR289_0.out n_)
        have hcv9e := fun n_ m_ : Nat => Kd.C_string (P := Try.prog) (A := A289_0) (c := c289_0) Try.underlying26 Try.underlying5 Try.underlying9 (Kd.C_drewN (Kd.C_drewN HR289_0.out n_) m_)
        go_wp2
        repeat (go_quiet (fail); try go_wp2)
        go_roundg k1
        case measure => have := HK1.out; omega
        case rel => exact ⟨(wrap64 (x5_1 + 1)), (by first | rfl | (simp; done) | (simp [*]; done)), H', ⟨by have := HK1.out; omega⟩, by repeat (first | exact Drawn0.refl _ | apply Drawn0.step)⟩
       ·rw [if_neg c7] at H
        have c7b0 : ((strOfNums (rd_L1 l0 x5_1)).toList == (strOfNums (rd_L1 l1 x5_1)).toList) = false := beq_eq_false_iff_ne.mpr c7
        have c7b1 : ((strOfNums (rd_L1 l0 x5_1)).toList != (strOfNums (rd_L1 l1 x5_1)).toList) = true := bne_iff_ne.mpr c7
        obtain rfl := Option.some.inj H
        have p288 : 0 ≤ (x5_1 : Int) := of_decide_eq_true (by first | (with_reducible assumption) | assumption)
        have q288 : x5_1 < (l0.length : Int) := of_decide_eq_true (by first | (with_reducible assumption) | assumption)
        obtain ⟨ad288, A288_0, c288_0, e288, hx288_0, hl288_0, hi288_0⟩ := at_L1 HR0.out x5_1 p288 q288
        cases e288
        have HR288_0 := Aside0.mk hi288_0
        have HC288_0 := Aside0.mk hl288_0
        clear hi288_0 hl288_0
        replace p288 := eq_true p288
        replace q288 := eq_true q288
        have hcv10 := Kd.C_string (P := Try.prog) (A := A288_0) (c := c288_0) Try.underlying26 Try.underlying5 Try.underlying9 HR288_0.out
        have hcv10d := fun n_ : Nat => Kd.C_string (P := Try.prog) (A := A288_0) (c := c288_0) Try.underlying26 Try.underlying5 Try.underlying9 (Kd.C_drewN HR288_0.out n_)
        have hcv10e := fun n_ m_ : Nat => Kd.C_string (P := Try.prog) (A := A288_0) (c := c288_0) Try.underlying26 Try.underlying5 Try.underlying9 (Kd.C_drewN (Kd.C_drewN HR288_0.out n_) m_)
        have p289 : 0 ≤ (x5_1 : Int) := of_decide_eq_true (by first | (with_reducible assumption) | assumption)
        have q289 : x5_1 < (l1.length : Int) := of_decide_eq_true (by first | (with_reducible assumption) | assumption)
        obtain ⟨ad289, A289_0, c289_0, e289, hx289_0, hl289_0, hi289_0⟩ := at_L1 HR1.out x5_1 p289 q289
        cases e289
        have HR289_0 := Aside0.mk hi289_0
        have HC289_0 := Aside0.mk hl289_0
        clear hi289_0 hl289_0
        replace p289 := eq_true p289
        replace q289 := eq_true q289
        have hcv11 := Kd.C_string (P := Try.prog) (A := A289_0) (c := c289_0) Try.underlying26 Try.underlying5 Try.underlying9 HR289_0.out
        have hcv11d := fun n_ : Nat => Kd.C_string (P := Try.prog) (A := A289_0) (c := c289_0) Try.underlying26 Try.underlying5 Try.underlying9 (Kd.C_drewN HR289_0.out n_)
        have hcv11e := fun n_ m_ : Nat => Kd.C_string (P := Try.prog) (A := A289_0) (c := c289_0) Try.underlying26 Try.underlying5 Try.underlying9 (Kd.C_drewN (Kd.C_drewN HR289_0.out n_) m_)
        go_wp2
        repeat (go_quiet (fail); try go_wp2)
        go_ret
        exact ⟨by first | rfl | (simp; done) | (simp [*]; done), by repeat (first | exact Drawn0.refl _ | apply Drawn0.step)⟩
      ·rw [if_neg c6] at H
       exact absurd H (by simp)
     ·rw [if_neg c5] at H
      exact absurd H (by simp)
    ·rw [if_neg c4] at H
     have c4b0 : decide (x5_1 < (l0.length : Int)) = false := decide_eq_false c4
     clear c4
     obtain rfl := Option.some.inj H
     go_wp2
     repeat (go_quiet (fail); try go_wp2)
     go_ret
     exact ⟨by first | rfl | (simp; done) | (simp [*]; done), by repeat (first | exact Drawn0.refl _ | apply Drawn0.step)⟩
 ·rw [if_neg c3] at H
  have c3b0 : ((l0.length : Int) == (l1.length : Int)) = false := beq_eq_false_iff_ne.mpr c3
  have c3b1 : ((l0.length : Int) != (l1.length : Int)) = true := bne_iff_ne.mpr c3
  have c3b2 : (l0.length == l1.length) = false := by first | simpa using c3 | (simp at c3 ⊢; omega)
  obtain rfl := Option.some.inj H
  go_enter Try.func21, Try.ntmps21
  go_wp2
  repeat (go_quiet (fail); try go_wp2)
  go_ret
  exact ⟨by first | rfl | (simp; done) | (simp [*]; done), by repeat (first | exact Drawn0.refl _ | apply Drawn0.step)⟩

/-! ### creellaw16_DictBack: function 5 -/
def anyEq (x : List Int) (L : List (List Int)) : Bool := L.any fun y => ((strOfNums x).toList == (strOfNums y).toList)
theorem anyEq_next {x : List Int} {L : List (List Int)} {i : Nat} (h : i < L.length) : anyEq x (L.take (i + 1)) = (anyEq x (L.take i) || ((strOfNums x).toList == (strOfNums (L.getD i [])).toList)) := by
 have e : L.getD i [] = L[i] := by simp [List.getD_eq_getElem?_getD, List.getElem?_eq_getElem h]
 rw [List.take_succ_eq_append_getElem h, e]
 unfold anyEq
 rw [List.any_append, List.any_cons, List.any_nil, Bool.or_false]
def creellaw16_DictBack.Pure : Prop := ∀ (l : List (List Int)) (x : List Int), l.length ≤ maxLen → (∀ y ∈ l, y.length ≤ maxLen ∧ ∀ n ∈ y, (Lit.int .u8 n).wf = true) → x.length ≤ maxLen → (∀ n ∈ x, (Lit.int .u8 n).wf = true) →
 ∃ (k : Nat) (L : List (List Int)) (b : List Int) (B : Dct), creellaw16_shown.f k = some true ∧ creellaw16_rise.f k l = some L ∧ dict_Build.f k L = some (b, 0) ∧ dict_Open.f k b = some (some B) ∧ B.flatten = L ∧ DFit (some B) ∧ creelref12_Same.f k L L = some true ∧ L.length ≤ 100 ∧
  (∀ i : Nat, i < L.length → DUp (some B) (L.getD i []) ∧ dId (some B) (L.getD i []) = ((i : Int), true)) ∧ DUp (some B) x ∧ (dId (some B) x).2 = anyEq x L
set_option maxHeartbeats 8000000 in
set_option maxRecDepth 100000 in
theorem creellaw16_DictBack.walk (P : creellaw16_DictBack.Pure) (a0 : Option Addr) (len0 cap0 : Nat) (l0 : List (List Int)) (a1 : Option Addr) (len1 cap1 : Nat) (z1 : List Int) (w : World) (w0 : Hand.IsSl (Kd.slice 5 (Kd.int .u8)) (fun x => x.length ≤ maxLen ∧ ∀ y ∈ x, (Lit.int .u8 y).wf = true) w a0 len0 cap0 l0) (w1 : (a1 = none ∧ len1 = 0 ∧ cap1 = 0 ∧ z1 = []) ∨ ∃ x, a1 = some x ∧ len1 ≤ cap1 ∧ cap1 ≤ maxLen ∧ z1.length = cap1 ∧ (∀ i, i < z1.length → w.cell? (x.add i) = some (.int .u8 (z1.getD i 0))) ∧ ∀ n ∈ z1, (Lit.int .u8 n).wf = true) (y1 : len1 * 1 ≤ 140737488351232) :
  Calls Try.prog 5 #[.slice a0 len0 cap0, .slice a1 len1 cap1] w fun e w' => e = .returned (.bool true) ∧ Below w.heap.size w w' := by
 obtain ⟨rfl, hc0, hm0, hr0, hw0⟩ := w0
 obtain ⟨x, rfl, hr, hm, hw, hc⟩ := ReadsInt.ofRowC w1
 obtain ⟨k, L, b, B, hs, hR, hB, hO, hfl, hfit, hS, hL, hid, hux, hix⟩ := P l0 x hm0 hw0 hm hw
 have HV := Aside0.mk (show Kd.V (Kd.slice 5 (Kd.int .u8)) 26 w w.heap.size (fun k_ => k_ < w.heap.size) (.slice a0 l0.length cap0) l0 from Kd.V_mk hc0 (Kd.C_F (Kd.heap_slice 5 (Kd.heap_int .u8)) hr0))
 have HX : Aside0 (Kd.C (Kd.int .u8) w a1 x.length x) := ⟨Kd.C_of_reads (d := (0 : Int)) (h1 := fun _ => rfl) hr⟩
 have HXC := Aside0.mk hc
 have hn : dN (some B) = L.length := congrArg List.length hfl
 have hlab : dLabels (some B) = L := hfl
 have hlm := fun (W : World) (q m : Nat) (h_ : DIs W q m B) (hm_ : m ≤ W.heap.size) => creellaw16_list.calls (.pointer (some ⟨q, 0, none⟩)) m (some B) (L.length : Int) W ⟨q, rfl, h_⟩ hfit hm_ (by rw [hn]; omega)
 rw [hlab] at hlm
 have hln := fun (W : World) (q m : Nat) (h_ : DIs W q m B) => dict_Dict_Len.calls (.pointer (some ⟨q, 0, none⟩)) m (some B) W ⟨q, rfl, h_⟩ hfit
 rw [hn] at hln
 have hlb := fun (i : Nat) (hi : i < L.length) (W : World) (q m : Nat) (h_ : DIs W q m B) (hm_ : m ≤ W.heap.size) => dict_Dict_Label.calls (.pointer (some ⟨q, 0, none⟩)) m (some B) (i : Int) W ⟨q, rfl, h_⟩ hfit hm_
 have hat : ∀ i : Nat, dAt (some B) (i : Int) = L.getD i [] := fun i => by rw [← hfl]; rfl
 have HLM := Aside0.mk hlm
 have HLN := Aside0.mk hln
 have HLB := Aside0.mk hlb
 have HAT := Aside0.mk hat
 have HN := Aside0.mk hn
 have HS := Aside0.mk hs
 have HRI := Aside0.mk hR
 have HB := Aside0.mk hB
 have HO := Aside0.mk hO
 have HFT := Aside0.mk hfit
 have HSA := Aside0.mk hS
 have HID := Aside0.mk hid
 have HUX := Aside0.mk hux
 have HIX := Aside0.mk hix
 clear hs hR hB hO hfl hfit hS hid hux hix hr hm hw hc hc0 hm0 hr0 hw0 w1 y1 hn hlab hlm hln hlb hat
 go_enter Try.func5, Try.ntmps5
 go_wp2_with (first
  | (go_at_call 9; (with_reducible refine (creellaw16_shown.calls k _ _ HS.out).mono ?_); rintro e wa ⟨rfl, hb⟩; have HBa := Aside0.mk hb; have HV2 := Aside0.mk (Kd.V_below HV.out hb); clear hb)
  | (go_at_call 11; (with_reducible refine (creellaw16_rise.calls k _ _ _ l0 L _ (Kd.V_mono HV2.out (fun _ h_ => h_)) HRI.out).mono ?_); rintro e wb ⟨v1, rfl, ho, hb⟩; obtain ⟨A1, c1, rfl⟩ := Kd.N_slice ho; have HL := Aside0.mk (Kd.C_F (Kd.heap_slice 5 (Kd.heap_int .u8)) (Kd.N_reads' ho).2.2); have HLC := Aside0.mk (Kd.N_reads' ho).2.1; have HBb := Aside0.mk (below_step HBa.out hb); clear ho hb)
  | (go_at_call 13; (with_reducible refine (creellaw16_tells.calls _ _ _ _).mono ?_); rintro e w13 ⟨rfl, hw_⟩; subst w13)
  | (go_at_call 12; (with_reducible refine (build_told k A1 L.length c1 L b 0 wb rfl (Kd.F_mono (Kd.F_bound HL.out) (fun _ h_ => h_.2)) HB.out).mono ?_); rintro e wc ⟨A2, c2, rfl, hc2, hF2, hb⟩; have HC2 := Aside0.mk hc2; have HF2 := Aside0.mk hF2; have HBc := Aside0.mk (below_step HBb.out hb); have HL2 := Aside0.mk (Kd.F_below HL.out hb); clear hc2 hF2 hb)
  | (go_at_call 15; (with_reducible refine (dict_Open.calls k A2 c2 b (some B) _ (Kd.F_now HF2.out) HC2.out HO.out).mono ?_); rintro e wd ⟨⟨q, rfl, hD⟩, hb⟩; have HD := Aside0.mk hD; have hmd := hb.size; have HBd := Aside0.mk (below_step HBc.out hb); have HL3 := Aside0.mk (Kd.F_below HL2.out hb); clear hb hD)
  | (go_at_call 17; (with_reducible refine (HLM.out _ _ _ HD.out hmd).mono ?_); rintro e we ⟨v2, rfl, ho, hb⟩; obtain ⟨A3, c3, rfl⟩ := Kd.N_slice ho; have HK := Aside0.mk (Kd.N_reads' ho); have HBe := Aside0.mk (below_step HBd.out hb); have HL4 := Aside0.mk (Kd.F_below HL3.out hb); have HD4 := Aside0.mk (HD.out.below hb); have hme := Nat.le_trans hmd hb.size; clear ho hb)
  | (go_at_call 21; (with_reducible refine (creelref12_Same.calls k _ _ L _ _ L true _ HK.out.2.2 HK.out.2.1 (Kd.F_now HL4.out) HLC.out HSA.out).mono ?_); rintro e wf ⟨rfl, hd⟩; have hb := hd.below; have HBf := Aside0.mk (below_step HBe.out hb); have HL5 := Aside0.mk (Kd.F_below HL4.out hb); have HD5 := Aside0.mk (HD4.out.below hb); have hmf := Nat.le_trans hme hb.size; clear hd hb)
  | (go_at_call 22; (with_reducible refine (HLN.out _ _ _ HD5.out).mono ?_); rintro e wg ⟨rfl, hw_⟩; subst wg))
 obtain ⟨wF, hwF⟩ : ∃ z, z = wf := ⟨_, rfl⟩
 subst hwF
 go_loopw [13, 70] (fun v13 v70 wr => ∃ (i : Nat), v70 = .int .i64 i ∧ i ≤ L.length ∧ v13 = .bool (anyEq x (L.take i)) ∧ Aside0 (Below wF.heap.size wF wr)) (fun _ v70 _ => L.length - (intOf v70).toNat)
 case atStart => exact ⟨0, rfl, Nat.zero_le _, rfl, ⟨Below.refl _ _⟩⟩
 case round =>
  obtain ⟨i, rfl, hi, rfl, HBR⟩ := hrel
  obtain ⟨wS, rfl⟩ : ∃ z, z = wr := ⟨_, rfl⟩
  by_cases hlt : i < L.length
  ·have hany := anyEq_next (x := x) hlt
   obtain ⟨ad, Ai, ci, rfl, hcell, hci, hFi⟩ := Hand.F_row_at (Kd.F_below HL5.out HBR.out) i hlt
   obtain ⟨hup, hdid⟩ := HID.out i hlt
   have hat := HAT.out i
   have hlb := HLB.out i hlt
   rw [hat, if_pos (show 0 ≤ (i : Int) ∧ (i : Int) < (dN (some B) : Int) from ⟨by omega, by rw [HN.out]; omega⟩), decide_eq_true (show 0 ≤ (i : Int) ∧ (i : Int) < (dN (some B) : Int) from ⟨by omega, by rw [HN.out]; omega⟩)] at hlb
   obtain ⟨y, hy⟩ : ∃ y, L.getD i [] = y := ⟨_, rfl⟩
   rw [hy] at hcell hci hFi hup hdid hlb hany
   have hid := fun (W : World) (c1 : Nat) (h_ : DIs W q c1 B) (hC_ : Kd.C (Kd.int .u8) W Ai y.length y) => dict_Dict_Id.calls (.pointer (some ⟨q, 0, none⟩)) c1 (some B) Ai ci y W ⟨q, rfl, h_⟩ HFT.out hC_ hci hup
   rw [hdid] at hid
   have HIDC := Aside0.mk hid
   have HLBC := Aside0.mk hlb
   have HANY := Aside0.mk hany
   have HCI := Aside0.mk hci
   have HFI := Aside0.mk hFi
   have HDR := Aside0.mk (HD5.out.below HBR.out)
   have hmr := Nat.le_trans hmf HBR.out.size
   have n0 : (0 : Int) ≤ (i : Int) := by omega
   have n1 : (i : Int) < (L.length : Int) := by omega
   clear hany hup hdid hat hlb hy hid hFi hci
   obtain ⟨t, ht⟩ : ∃ t, anyEq x (L.take i) = t := ⟨_, rfl⟩
   rw [ht] at HANY ⊢
   clear ht
   cases t with
   | true =>
    go_wp2_with (first
     | (go_at_call 18; (with_reducible refine (HIDC.out _ _ HDR.out (Kd.F_now HFI.out)).mono ?_); rintro e wx ⟨rfl, hb⟩; have HBx := Aside0.mk (below_step HBR.out hb); have HDx := Aside0.mk (HDR.out.below hb); have hmx := Nat.le_trans hmr hb.size; have HFx := Aside0.mk (Kd.F_below HFI.out hb); clear hb)
     | (go_at_call 20; (with_reducible refine (HLBC.out _ _ _ HDx.out hmx).mono ?_); rintro e wy ⟨v3, rfl, ho, hb⟩; obtain ⟨Az, cz, rfl⟩ := Kd.R_slice ho; have HBy := Aside0.mk (below_step HBx.out hb); have HFy := Aside0.mk (Kd.F_below HFx.out hb); have hcz := Kd.C_string (P := Try.prog) (A := Az) (c := cz) Try.underlying26 Try.underlying5 Try.underlying9 (Kd.R_reads' ho).2.2; have hcy := Kd.C_string (P := Try.prog) (A := Ai) (c := ci) Try.underlying26 Try.underlying5 Try.underlying9 (Kd.F_now HFy.out); clear ho hb))
    exact ⟨⟨i + 1, rfl, by omega, by rw [HANY.out]; rfl, HBy⟩, by simp [intOf]; omega⟩
   | false =>
    go_wp2_with (first
     | (go_at_call 18; (with_reducible refine (HIDC.out _ _ HDR.out (Kd.F_now HFI.out)).mono ?_); rintro e wx ⟨rfl, hb⟩; have HBx := Aside0.mk (below_step HBR.out hb); have HDx := Aside0.mk (HDR.out.below hb); have hmx := Nat.le_trans hmr hb.size; have HFx := Aside0.mk (Kd.F_below HFI.out hb); clear hb)
     | (go_at_call 20; (with_reducible refine (HLBC.out _ _ _ HDx.out hmx).mono ?_); rintro e wy ⟨v3, rfl, ho, hb⟩; obtain ⟨Az, cz, rfl⟩ := Kd.R_slice ho; have HBy := Aside0.mk (below_step HBx.out hb); have HFy := Aside0.mk (Kd.F_below HFx.out hb); have hcz := Kd.C_string (P := Try.prog) (A := Az) (c := cz) Try.underlying26 Try.underlying5 Try.underlying9 (Kd.R_reads' ho).2.2; have hcy := Kd.C_string (P := Try.prog) (A := Ai) (c := ci) Try.underlying26 Try.underlying5 Try.underlying9 (Kd.F_now HFy.out); have hcx := Kd.C_string (P := Try.prog) (A := a1) (c := cap1) Try.underlying26 Try.underlying5 Try.underlying9 (Kd.C_below HX.out (HBf.out.trans (Below.mono HBy.out HBf.out.size))); clear ho hb))
    exact ⟨⟨i + 1, rfl, by omega, by rw [HANY.out]; rfl, HBy⟩, by simp [intOf]; omega⟩
  ·obtain rfl : i = L.length := by omega
   rw [List.take_length]
   have HDR := Aside0.mk (HD5.out.below HBR.out)
   have HBW := Aside0.mk (HBf.out.trans (Below.mono HBR.out HBf.out.size))
   have HXR := Aside0.mk (Kd.C_below HX.out HBW.out)
   obtain ⟨t, ht⟩ : ∃ t, anyEq x L = t := ⟨_, rfl⟩
   have hix := HIX.out
   rw [ht] at hix ⊢
   have hid := fun (W : World) (c1 : Nat) (h_ : DIs W q c1 B) (hC_ : Kd.C (Kd.int .u8) W a1 x.length x) => dict_Dict_Id.calls (.pointer (some ⟨q, 0, none⟩)) c1 (some B) a1 cap1 x W ⟨q, rfl, h_⟩ HFT.out hC_ HXC.out HUX.out
   rw [hix] at hid
   have HIDC := Aside0.mk hid
   clear hid hix ht
   go_wp2_with (first
    | (go_at_call 18; (with_reducible refine (HIDC.out _ _ HDR.out HXR.out).mono ?_); rintro e wx ⟨rfl, hb⟩; have HBx := Aside0.mk (below_step HBW.out hb); clear hb))
   go_ret
   exact ⟨by simp, HBx.out⟩

/-! ### creellaw16_DictCut: function 6 -/
theorem nat_u16c {x : Int} (h : (Lit.int .u16 x).wf = true) : ∃ n : Nat, x = n ∧ n < 65536 := by
 have e1 : IntKind.u16.min = 0 := by decide
 have e2 : IntKind.u16.max = 65535 := by decide
 simp only [Lit.wf, e1, e2, Bool.and_eq_true, decide_eq_true_eq] at h
 exact ⟨x.toNat, by omega, by omega⟩
def creellaw16_DictCut.Pure : Prop := ∀ (l : List (List Int)) (at_ : Nat), l.length ≤ maxLen → (∀ y ∈ l, y.length ≤ maxLen ∧ ∀ n ∈ y, (Lit.int .u8 n).wf = true) → at_ < 65536 →
 ∃ (k : Nat) (L : List (List Int)) (b : List Int), creellaw16_shown.f k = some true ∧ creellaw16_rise.f k l = some L ∧ dict_Build.f k L = some (b, 0) ∧ L.length ≤ 100 ∧ b.length ≤ 1000000 ∧ (b.length = 0 ↔ L.length = 0) ∧
  ((∃ B : Dct, dict_Open.f k (b.take (at_ % (b.length + 1))) = some (some B) ∧ DFit (some B) ∧ B.flatten.length ≤ L.length ∧ creelref12_Same.f k B.flatten (L.take B.flatten.length) = some true ∧ (B.flatten.length = L.length ∨ B.flatten.length % 16 = 0)) ∨
  (dict_Open.f k (b.take (at_ % (b.length + 1))) = some none ∧ dict_Open.f k (b ++ b) = some none))
set_option maxHeartbeats 8000000 in
set_option maxRecDepth 100000 in
theorem creellaw16_DictCut.walk (P : creellaw16_DictCut.Pure) (a0 : Option Addr) (len0 cap0 : Nat) (l0 : List (List Int)) (a1 : Int) (w : World) (w0 : Hand.IsSl (Kd.slice 5 (Kd.int .u8)) (fun x => x.length ≤ maxLen ∧ ∀ y ∈ x, (Lit.int .u8 y).wf = true) w a0 len0 cap0 l0) (w1 : (Lit.int .u16 a1).wf = true) :
  Calls Try.prog 6 #[.slice a0 len0 cap0, .int .u16 a1] w fun e w' => e = .returned (.bool true) ∧ Below w.heap.size w w' := by
 obtain ⟨rfl, hc0, hm0, hr0, hw0⟩ := w0
 obtain ⟨at_, rfl, hat⟩ := nat_u16c w1
 obtain ⟨k, L, b, hs, hR, hB, hL, hbl, hbz, hcase⟩ := P l0 at_ hm0 hw0 hat
 obtain ⟨n, hn⟩ : ∃ n, at_ % (b.length + 1) = n := ⟨_, rfl⟩
 have hnb : n ≤ b.length := by rw [← hn]; exact Nat.le_of_lt_succ (Nat.mod_lt _ (Nat.succ_pos _))
 rw [hn] at hcase
 have HCASE := Aside0.mk hcase
 clear hcase
 have HV := Aside0.mk (show Kd.V (Kd.slice 5 (Kd.int .u8)) 26 w w.heap.size (fun k_ => k_ < w.heap.size) (.slice a0 l0.length cap0) l0 from Kd.V_mk hc0 (Kd.C_F (Kd.heap_slice 5 (Kd.heap_int .u8)) hr0))
 have HS := Aside0.mk hs
 have HRI := Aside0.mk hR
 have HB := Aside0.mk hB
 have e1 : ((L.length : Int) == 0) = ((b.length : Int) == 0) := by
  rw [Bool.eq_iff_iff, beq_iff_eq, beq_iff_eq]
  omega
 have e2 : (at_ : Int) % ((b.length : Int) + 1) = (n : Int) := by rw [← hn, Int.natCast_emod, Int.natCast_add]; rfl
 have e2t : (at_ : Int).tmod ((b.length : Int) + 1) = (n : Int) := by rw [Int.tmod_eq_emod_of_nonneg (Int.natCast_nonneg _)]; exact e2
 have e3 : ((b.length : Int) + 1 == 0) = false := beq_eq_false_iff_ne.mpr (by omega)
 have e4 : (b.length : Int) + 1 ≠ 0 := by omega
 have q0 : (0 : Int) ≤ (n : Int) := by omega
 have q1 : (n : Int) ≤ (b.length : Int) := by omega
 obtain ⟨p, hp⟩ : ∃ p, b.take n = p := ⟨_, rfl⟩
 have hpl : p.length = n := by rw [← hp, List.length_take]; omega
 have hcase := HCASE.out
 rw [hp] at hcase
 clear HCASE hn
 subst hpl
 have HP := Aside0.mk hp
 clear hs hR hB hc0 hm0 hr0 hw0 w1 hbz hp
 rcases hcase with ⟨B, hO, hfit, hML, hS, hlen⟩ | ⟨hO, hO2⟩
 ·obtain ⟨M, hM⟩ : ∃ M, B.flatten = M := ⟨_, rfl⟩
  have hlm := fun (W : World) (q m : Nat) (h_ : DIs W q m B) (hm_ : m ≤ W.heap.size) => creellaw16_list.calls (.pointer (some ⟨q, 0, none⟩)) m (some B) (L.length : Int) W ⟨q, rfl, h_⟩ hfit hm_ (by show ((B.flatten.length : Nat) : Int) ≤ _; omega)
  rw [show dLabels (some B) = M from hM] at hlm
  rw [hM] at hML hS hlen
  obtain ⟨Q, hQ⟩ : ∃ Q, L.take M.length = Q := ⟨_, rfl⟩
  have hQL : Q.length = M.length := by rw [← hQ, List.length_take]; omega
  rw [hQ] at hS
  have HLM := Aside0.mk hlm
  have HO := Aside0.mk hO
  have HSA := Aside0.mk hS
  have HQ := Aside0.mk hQ
  have HQL := Aside0.mk hQL
  have f1 : decide ((M.length : Int) ≤ (L.length : Int)) = true := decide_eq_true (by omega)
  have f0 : (0 : Int) ≤ (M.length : Int) := by omega
  have f2 : (M.length : Int) ≤ (L.length : Int) := by omega
  have f5 : (((M.length : Int) == (L.length : Int)) || ((M.length : Int) % 16 == 0)) = true := by
   rw [Bool.or_eq_true, beq_iff_eq, beq_iff_eq]
   rcases hlen with h_ | h_
   ·exact .inl (by omega)
   ·exact .inr (by omega)
  have HLEN := Aside0.mk f5
  clear hlm hO hS hQ hQL hM hlen hfit f5
  go_enter Try.func6, Try.ntmps6
  go_wp2_with (first
   | (go_at_call 9; (with_reducible refine (creellaw16_shown.calls k _ _ HS.out).mono ?_); rintro e wa ⟨rfl, hb⟩; have HBa := Aside0.mk hb; have HV2 := Aside0.mk (Kd.V_below HV.out hb); clear hb)
   | (go_at_call 11; (with_reducible refine (creellaw16_rise.calls k _ _ _ l0 L _ (Kd.V_mono HV2.out (fun _ h_ => h_)) HRI.out).mono ?_); rintro e wb ⟨v1, rfl, ho, hb⟩; obtain ⟨A1, c1, rfl⟩ := Kd.N_slice ho; have HL := Aside0.mk (Kd.C_F (Kd.heap_slice 5 (Kd.heap_int .u8)) (Kd.N_reads' ho).2.2); have HLC := Aside0.mk (Kd.N_reads' ho).2.1; have HBb := Aside0.mk (below_step HBa.out hb); clear ho hb)
   | (go_at_call 13; (with_reducible refine (creellaw16_tells.calls _ _ _ _).mono ?_); rintro e w13 ⟨rfl, hw_⟩; subst w13)
   | (go_at_call 12; (with_reducible refine (build_told k A1 L.length c1 L b 0 wb rfl (Kd.F_mono (Kd.F_bound HL.out) (fun _ h_ => h_.2)) HB.out).mono ?_); rintro e wc ⟨A2, c2, rfl, hc2, hF2, hb⟩; have HC2 := Aside0.mk hc2; have HF2 := Aside0.mk hF2; have HBc := Aside0.mk (below_step HBb.out hb); have HL2 := Aside0.mk (Kd.F_below HL.out hb); obtain ⟨n2, hn2, hn2c, hcut, hFp⟩ := Hand.cut_take (P := Try.prog) 26 .i64 Try.underlying26 (by kernel_rfl) hF2 hc2 p.length hnb; rw [HP.out] at hn2 hFp; subst hn2; have HFP := Aside0.mk hFp; have HNC := Aside0.mk hn2c; clear hc2 hF2 hb hFp hn2c)
   | (go_at_call 15; (with_reducible refine (dict_Open.calls k A2 c2 p (some B) _ (Kd.F_now HFP.out) HNC.out HO.out).mono ?_); rintro e wd ⟨⟨q, rfl, hD⟩, hb⟩; have HD := Aside0.mk hD; have hmd := hb.size; have HBd := Aside0.mk (below_step HBc.out hb); have HL3 := Aside0.mk (Kd.F_below HL2.out hb); clear hb hD)
   | (go_at_call 17; (with_reducible refine (HLM.out _ _ _ HD.out hmd).mono ?_); rintro e we ⟨v2, rfl, ho, hb⟩; obtain ⟨A3, c3, rfl⟩ := Kd.N_slice ho; have HK := Aside0.mk (Kd.N_reads' ho); have HBe := Aside0.mk (below_step HBd.out hb); have HL4 := Aside0.mk (Kd.F_below HL3.out hb); obtain ⟨n4, hn4, hn4c, hcut4, hF4⟩ := Hand.cut_take (P := Try.prog) 22 .i64 Try.underlying22 (by kernel_rfl) HL4.out HLC.out M.length hML; rw [HQ.out] at hn4 hF4; subst hn4; have HF4 := Aside0.mk hF4; have HN4 := Aside0.mk hn4c; rw [HQL.out] at hcut4 HF4 HN4; clear ho hb hF4 hn4c)
   | (go_at_call 21; have h_ := creelref12_Same.calls k A3 c3 M A1 c1 Q true we HK.out.2.2 HK.out.2.1 (by rw [HQL.out]; exact Kd.F_now HF4.out) (by rw [HQL.out]; exact HN4.out) HSA.out; rw [HQL.out] at h_; (with_reducible refine h_.mono ?_); rintro e wf ⟨rfl, hd⟩; have hb := hd.below; have HBf := Aside0.mk (below_step HBe.out hb); clear hd hb))
  all_goals (
   go_ret
   exact ⟨by rw [← HLEN.out]; rfl, HBf.out⟩)
 ·obtain ⟨bb, hbb⟩ : ∃ bb, b ++ b = bb := ⟨_, rfl⟩
  rw [hbb] at hO2
  have HBB := Aside0.mk hbb
  have HO := Aside0.mk hO
  have HO2 := Aside0.mk hO2
  clear hO hO2 hbb
  go_enter Try.func6, Try.ntmps6
  go_wp2_with (first
   | (go_at_call 9; (with_reducible refine (creellaw16_shown.calls k _ _ HS.out).mono ?_); rintro e wa ⟨rfl, hb⟩; have HBa := Aside0.mk hb; have HV2 := Aside0.mk (Kd.V_below HV.out hb); clear hb)
   | (go_at_call 11; (with_reducible refine (creellaw16_rise.calls k _ _ _ l0 L _ (Kd.V_mono HV2.out (fun _ h_ => h_)) HRI.out).mono ?_); rintro e wb ⟨v1, rfl, ho, hb⟩; obtain ⟨A1, c1, rfl⟩ := Kd.N_slice ho; have HL := Aside0.mk (Kd.C_F (Kd.heap_slice 5 (Kd.heap_int .u8)) (Kd.N_reads' ho).2.2); have HLC := Aside0.mk (Kd.N_reads' ho).2.1; have HBb := Aside0.mk (below_step HBa.out hb); clear ho hb)
   | (go_at_call 13; (with_reducible refine (creellaw16_tells.calls _ _ _ _).mono ?_); rintro e w13 ⟨rfl, hw_⟩; subst w13)
   | (go_at_call 12; (with_reducible refine (build_told k A1 L.length c1 L b 0 wb rfl (Kd.F_mono (Kd.F_bound HL.out) (fun _ h_ => h_.2)) HB.out).mono ?_); rintro e wc ⟨A2, c2, rfl, hc2, hF2, hb⟩; have HC2 := Aside0.mk hc2; have HF2 := Aside0.mk hF2; have HBc := Aside0.mk (below_step HBb.out hb); have HL2 := Aside0.mk (Kd.F_below HL.out hb); obtain ⟨n2, hn2, hn2c, hcut, hFp⟩ := Hand.cut_take (P := Try.prog) 26 .i64 Try.underlying26 (by kernel_rfl) hF2 hc2 p.length hnb; rw [HP.out] at hn2 hFp; subst hn2; have HFP := Aside0.mk hFp; have HNC := Aside0.mk hn2c; clear hc2 hF2 hb hFp hn2c)
   | (go_at_call 15; (with_reducible refine (dict_Open.calls k A2 c2 p none _ (Kd.F_now HFP.out) HNC.out HO.out).mono ?_); rintro e wd ⟨h_, hb⟩; replace h_ : e = .returned (.tuple #[.pointer none, .int .i64 6]) := h_; subst h_; have HBd := Aside0.mk (below_step HBc.out hb); have HF3 := Aside0.mk (Kd.F_below HF2.out hb); clear hb)
   | ((with_reducible refine gate_builtin (b := .append) (xs := #[.tmp 91, .tmp 92]) rfl ?_); (try (refine gate_guard (by rfl) ?_; dsimp only)); at_builtin; refine Kd.R_append_rows (Kd.int .u8) (w0 := wd.alloc (.cells #[] 5)) wd.heap.size rfl (.tmp 91) (.tmp 92) 26 5 (.int .u8 0) 1 rfl Try.underlying26 info5 rfl (by decide) (by decide) (.slice (some ⟨wd.heap.size, 0, none⟩) 0 0) [] b A2 b.length c2 (fun _ => True) (fun _ => False) rfl rfl (Hand.R_lit0 _ _ _ rfl (Nat.le_refl _) trivial) (Kd.F_now (Kd.F_below HF3.out ((Below.refl _ _).alloc (Nat.le_refl _) _))) (fun _ _ h => h) (fun _ h => h.elim) (fun _ _ => trivial) (Below.refl _ _) (by simp) (by simp only [List.length_nil]; omega) ?_; intro v5 wv ho hb hg hat; rw [List.nil_append] at ho; have HR5 := Aside0.mk ho; have HB5 := Aside0.mk (below_step HBd.out (Below.trans ((Below.refl wd.heap.size wd).alloc (Nat.le_refl _) _) hb)); have HF5 := Aside0.mk (Kd.F_below HF3.out (Below.trans ((Below.refl wd.heap.size wd).alloc (Nat.le_refl _) _) hb)); have hwv := Nat.le_trans (Nat.le_succ _) (Nat.le_trans (Nat.le_of_eq (World.size_alloc wd (.cells #[] 5)).symm) hb.size); obtain ⟨A5, c5, rfl⟩ := Kd.R_slice ho; clear ho hb hg hat)
   | ((with_reducible refine gate_builtin (b := .append) (xs := #[.tmp 93, .tmp 94]) rfl ?_); (try (refine gate_guard (by rfl) ?_; dsimp only)); at_builtin; refine Kd.R_append_rows (Kd.int .u8) (w0 := wv) wd.heap.size rfl (.tmp 93) (.tmp 94) 26 5 (.int .u8 0) 1 rfl Try.underlying26 info5 rfl (by decide) (by decide) (.slice A5 b.length c5) b b A2 b.length c2 (fun _ => True) (fun _ => False) rfl rfl HR5.out (Kd.F_now HF5.out) (fun _ _ h => h) (fun _ h => h.elim) (fun _ _ => trivial) (Below.refl _ _) hwv (by omega) ?_; intro v6 wz ho hb hg hat; rw [HBB.out] at ho; have HR6 := Aside0.mk ho; have HB6 := Aside0.mk (Below.trans HB5.out (Below.mono hb HBd.out.size)); obtain ⟨A6, c6, rfl⟩ := Kd.R_slice ho; clear ho hb hg hat)
   | (go_at_call 15; (with_reducible refine (dict_Open.calls k A6 c6 bb none _ (Kd.R_reads' HR6.out).2.2 (Kd.R_reads' HR6.out).2.1 HO2.out).mono ?_); rintro e wt ⟨h_, hb⟩; replace h_ : e = .returned (.tuple #[.pointer none, .int .i64 6]) := h_; subst h_; have HBt := Aside0.mk (below_step HB6.out hb); clear hb))
  go_ret
  exact ⟨rfl, HBt.out⟩

/-! ### creellaw16_DictOrder: function 8 -/
/-- A quiet region that draws, inside a round. -/
theorem region_quiet_round {F : Fence} {n : Nat} {P : Program} {l : List Oper} {Q : Exit → Act → World → Prop} (lq : Nat) (hro : F.round = none) (hd : Hand.noDefer l = true) {id : Nat} {a : Act} {w : World} (hm : P.follows .mixedOrders = true) (hB : Region.lexB .any l.toArray = true)
  (h : wpQuietIn F n P l.toArray (fun w' => ∃ n, w' = w.drewN n) (fun a' => ∀ w', (∃ n, w' = w.drewN n) → Q .normal a' w') l a) : (Code.region id l.toArray true).wpIn (F.inRound lq) n P Q a w := by
 simp only [Region.lexB, Bool.and_eq_true] at hB
 refine Hand.region_round lq hro (Hand.noDefer_spec hd) hm (wpAnyIn_of_quiet (C := fun w' => ∃ n, w' = w.drewN n) (Q := fun a' => ∀ w', (∃ n, w' = w.drewN n) → Q .normal a' w') hro (fun _ w' hw' h => h w' hw') _ _ _ _ ⟨1, rfl⟩ ?_)
 have := wpAnyQIn_lex (F := F) (n := n) (C := fun w' => ∃ n, w' = w.drewN n) (md := .any) (P := P) (ops := l.toArray) hB.1 l 0 (Array.replicate l.toArray.size false) a (by simp) (by simpa using hB.2) h
 simpa using this
theorem nat_u8o {x : Int} (h : (Lit.int .u8 x).wf = true) : ∃ n : Nat, x = n ∧ n < 256 := by
 have e1 : IntKind.u8.min = 0 := by decide
 have e2 : IntKind.u8.max = 255 := by decide
 simp only [Lit.wf, e1, e2, Bool.and_eq_true, decide_eq_true_eq] at h
 exact ⟨x.toNat, by omega, by omega⟩
def creellaw16_DictOrder.Pure : Prop := ∀ (l : List (List Int)) (a b : Nat), l.length ≤ maxLen → (∀ y ∈ l, y.length ≤ maxLen ∧ ∀ n ∈ y, (Lit.int .u8 n).wf = true) → a < 256 → b < 256 →
 ∃ (k : Nat) (L : List (List Int)) (p : List Int) (B : Dct), creellaw16_shown.f k = some true ∧ creellaw16_rise.f k l = some L ∧ dict_Build.f k L = some (p, 0) ∧ dict_Open.f k p = some (some B) ∧ B.flatten = L ∧ DFit (some B) ∧ L.length ≤ 100 ∧ (L.length = 0 → p.length = 0) ∧
  (0 < L.length → ∃ i j : Int, DUp (some B) (L.getD (a % L.length) []) ∧ DUp (some B) (L.getD (b % L.length) []) ∧ dId (some B) (L.getD (a % L.length) []) = (i, true) ∧ dId (some B) (L.getD (b % L.length) []) = (j, true) ∧ decide (i < j) = Op.bytesLess (strOfNums (L.getD (a % L.length) [])).toList (strOfNums (L.getD (b % L.length) [])).toList)
attribute [local go_sem] Oper.semAt_some in
set_option maxHeartbeats 8000000 in
set_option maxRecDepth 100000 in
theorem creellaw16_DictOrder.walk (P : creellaw16_DictOrder.Pure) (a0 : Option Addr) (len0 cap0 : Nat) (l0 : List (List Int)) (a1 : Int) (a2 : Int) (a3 : Int) (w : World) (w0 : Hand.IsSl (Kd.slice 5 (Kd.int .u8)) (fun x => x.length ≤ maxLen ∧ ∀ y ∈ x, (Lit.int .u8 y).wf = true) w a0 len0 cap0 l0) (w1 : (Lit.int .u8 a1).wf = true) (w2 : (Lit.int .u8 a2).wf = true) (w3 : (Lit.int .u8 a3).wf = true) :
  Calls Try.prog 8 #[.slice a0 len0 cap0, .int .u8 a1, .int .u8 a2, .int .u8 a3] w fun e w' => e = .returned (.bool true) ∧ Below w.heap.size w w' := by
 obtain ⟨rfl, hc0, hm0, hr0, hw0⟩ := w0
 obtain ⟨xa, rfl, hxa⟩ := nat_u8o w1
 obtain ⟨xb, rfl, hxb⟩ := nat_u8o w2
 obtain ⟨xn, rfl, hxn⟩ := nat_u8o w3
 obtain ⟨k, L, b, B, hs, hR, hB, hO, hfl, hfit, hL, hbz, hxy⟩ := P l0 xa xb hm0 hw0 hxa hxb
 have HF0 := Aside0.mk (Kd.C_F (Kd.heap_slice 5 (Kd.heap_int .u8)) hr0)
 have hn : dN (some B) = L.length := congrArg List.length hfl
 have hat : ∀ i : Nat, dAt (some B) (i : Int) = L.getD i [] := fun i => by rw [← hfl]; rfl
 have HAT := Aside0.mk hat
 have HN := Aside0.mk hn
 have HS := Aside0.mk hs
 have HRI := Aside0.mk hR
 have HB := Aside0.mk hB
 have HO := Aside0.mk hO
 have HFT := Aside0.mk hfit
 have HXY := Aside0.mk hxy
 have HC0 := Aside0.mk hc0
 clear hs hR hB hO hfl hfit hxy hm0 hr0 hw0 w1 w2 w3 hn hat hc0
 refine (callsIn_wide (n := 10)).1 ?_
 refine callsIn_of_wp_marks Try.func8 rfl trivial ?_ rfl
 simp only [Try.ntmps8, List.size_toArray, List.length_cons, List.length_nil, Nat.reduceAdd, Nat.reduceSub, Array.replicate_succ, Array.replicate_zero, List.push_toArray, List.append_toArray, List.nil_append, List.cons_append]
 gi_wp2_with fail
 refine ⟨trivial, ?_⟩
 have hba : Below w.heap.size w ((w.alloc (Obj.cells #[Value.int .u8 (xn : Int)] 5)).alloc (Obj.cells #[Value.bool false] 4)) := ((Below.refl _ _).alloc (Nat.le_refl _) _).alloc (by simp) _
 refine (callsIn_wide.2 (creellaw16_shown.calls k true _ HS.out)).mono ?_
 rintro e wa ⟨rfl, hb1⟩
 gi_wp2_with fail
 refine ⟨trivial, ?_⟩
 have hbA := below_step hba hb1
 refine (callsIn_wide.2 (creellaw16_rise.calls k (fun k_ => k_ < w.heap.size) a0 cap0 l0 L wa (Kd.V_mk HC0.out (Kd.F_below HF0.out hbA)) HRI.out)).mono ?_
 rintro e wb ⟨v1, rfl, ho, hb2⟩
 obtain ⟨A1, c1, rfl⟩ := Kd.N_slice ho
 have HL := Aside0.mk (Kd.F_bound (Kd.C_F (Kd.heap_slice 5 (Kd.heap_int .u8)) (Kd.N_reads' ho).2.2))
 have HLC := Aside0.mk (Kd.N_reads' ho).2.1
 have hbB := below_step hbA hb2
 have hca : wa.heap[w.heap.size]? = some (.cells #[.int .u8 xn] 5) := by
  refine (hb1.block _ (by simp; omega)).trans ?_
  exact (Below.heap_alloc _ _ _ (by simp)).trans (heap_alloc_new w _)
 have hcr : wa.heap[w.heap.size + 1]? = some (.cells #[.bool false] 4) := by
  refine (hb1.block _ (by simp)).trans ?_
  have h := heap_alloc_new (w.alloc (Obj.cells #[Value.int .u8 (xn : Int)] 5)) (Obj.cells #[Value.bool false] 4)
  rwa [World.size_alloc] at h
 have hsa := hb1.size
 simp only [World.size_alloc] at hsa
 have hcb := (hb2.block _ (by omega)).trans hca
 have hcs := (hb2.block _ (by omega)).trans hcr
 have hsb := hb2.size
 clear ho hb1 hb2 hba hca hcr
 gi_wp2_with fail
 refine ⟨trivial, ?_⟩
 obtain ⟨w1, hw1⟩ : ∃ w1, wb.alloc (.cells #[.slice A1 L.length c1] 22) = w1 := ⟨_, rfl⟩
 rw [hw1]
 have hb1 : Below wb.heap.size wb w1 := by rw [← hw1]; exact (Below.refl _ _).alloc (Nat.le_refl _) _
 have hin1 : w1.heap[wb.heap.size]? = some (.cells #[.slice A1 L.length c1] 22) := by rw [← hw1]; exact heap_alloc_new _ _
 have hs1 : wb.heap.size + 1 ≤ w1.heap.size := by rw [← hw1]; simp
 clear hw1
 refine (callsIn_wide.2 (creellaw16_tells.calls A1 L.length c1 w1)).mono ?_
 rintro e w2 ⟨rfl, rfl⟩
 gi_wp2_with fail
 refine ⟨trivial, ?_⟩
 have hFL1 : Kd.F (Kd.slice 5 (Kd.int .u8)) w1 (fun k_ => k_ < w1.heap.size) A1 L.length L := Kd.F_mono (Kd.F_below HL.out hb1) (fun k_ h_ => Nat.lt_of_lt_of_le h_.2 hb1.size)
 refine (callsIn_wide.2 (build_told k A1 L.length c1 L b 0 w1 rfl hFL1 HB.out)).mono ?_
 rintro e wc ⟨A2, c2, rfl, hc2, hF2, hb3⟩
 gi_wp2_with fail
 refine ⟨trivial, ?_⟩
 refine (callsIn_wide.2 (dict_Open.calls k A2 c2 b (some B) wc (Kd.F_now hF2) hc2 HO.out)).mono ?_
 rintro e wd ⟨⟨q, rfl, hD⟩, hb4⟩
 have hbD := below_step (below_step (below_step hbB hb1) hb3) hb4
 have hb1d := below_step (below_step hb1 hb3) hb4
 have hsd := hb1d.size
 have hdn := (hb1d.block _ (by omega)).trans hcb
 have hdr := (hb1d.block _ (by omega)).trans hcs
 have hsz3 := hb3.size
 have hsz4 := hb4.size
 have hdi := (hb4.block _ (by omega)).trans ((hb3.block _ (by omega)).trans hin1)
 have HLD := Aside0.mk (Kd.F_mono (Kd.F_below HL.out hb1d) (fun k_ h_ => h_.2))
 have hmd : wc.heap.size ≤ wd.heap.size := hb4.size
 have o0 : wd.cell? ⟨wb.heap.size, 0, none⟩ = some (.slice A1 L.length c1) := cell_of_row _ _ _ _ _ _ hdi
 have o1 : wd.cell? ⟨w.heap.size, 0, none⟩ = some (.int .u8 xn) := cell_of_row _ _ _ _ _ _ hdn
 have o2 : wd.cell? ⟨w.heap.size + 1, 0, none⟩ = some (.bool false) := cell_of_row _ _ _ _ _ _ hdr
 have of2 : wd.frozen? ⟨w.heap.size + 1, 0, none⟩ = false := by simp [World.frozen?, hdr]
 have HD := Aside0.mk hD
 have HBD := Aside0.mk hbD
 have HDI := Aside0.mk hdi
 have HDN := Aside0.mk hdn
 have HDR := Aside0.mk hdr
 clear hbA hbB hcb hcs hb1 hin1 hF2 hc2 hb3 hb4 hbD hb1d hdi hdn hdr hD hsz3 hsz4
 by_cases hL0 : L.length = 0
 ·have e1 : ((L.length : Int) == 0) = true := by rw [hL0]; rfl
  have e2 : ((b.length : Int) == 0) = true := by rw [hbz hL0]; rfl
  gi_wp2_with fail
  have hr : (wd.setCell ⟨w.heap.size + 1, 0, none⟩ (.bool true)).heap[w.heap.size + 1]? = some (.cells #[.bool true] 4) := heap_setCell_same _ _ _ _ _ _ HDR.out
  have c1 : (wd.setCell ⟨w.heap.size + 1, 0, none⟩ (.bool true)).cell? ⟨w.heap.size + 1, 0, none⟩ = some (.bool true) := cell_of_row _ _ _ _ _ _ hr
  have hbz := HBD.out
  refine ⟨.bool true, ?_, rfl, ⟨hbz.os, hbz.tape, hbz.output, by simpa using hbz.size, fun k_ hk_ => (Below.heap_setCell wd ⟨w.heap.size + 1, 0, none⟩ _ k_ (by show k_ ≠ w.heap.size + 1; omega)).trans (hbz.block k_ hk_)⟩⟩
  simp [results, Try.f8, go_sem, c1]
 ·have hLp : 0 < L.length := Nat.pos_of_ne_zero hL0
  obtain ⟨vi, vj, hux, huy, hix, hiy, hlt⟩ := HXY.out hLp
  have e1 : ((L.length : Int) == 0) = false := beq_eq_false_iff_ne.mpr (by omega)
  have e2 : (L.length : Int) ≠ 0 := by omega
  have hma := Nat.mod_lt xa hLp
  have hmb := Nat.mod_lt xb hLp
  obtain ⟨ia, hia⟩ : ∃ i, xa % L.length = i := ⟨_, rfl⟩
  obtain ⟨ib, hib⟩ : ∃ i, xb % L.length = i := ⟨_, rfl⟩
  have m1 : (xa : Int) % (L.length : Int) = (ia : Int) := by rw [← hia, Int.natCast_emod]
  have m2 : (xb : Int) % (L.length : Int) = (ib : Int) := by rw [← hib, Int.natCast_emod]
  have m1t : (xa : Int).tmod (L.length : Int) = (ia : Int) := by rw [Int.tmod_eq_emod_of_nonneg (Int.natCast_nonneg _)]; exact m1
  have m2t : (xb : Int).tmod (L.length : Int) = (ib : Int) := by rw [Int.tmod_eq_emod_of_nonneg (Int.natCast_nonneg _)]; exact m2
  rw [hia] at hma hux hix hlt
  rw [hib] at hmb huy hiy hlt
  obtain ⟨ad, X1, cx1, rfl, hcell1, hcx1, hFx1⟩ := Hand.F_row_at HLD.out ia hma
  obtain ⟨ad2, X2, cx2, he2, hcell2, hcx2, hFx2⟩ := Hand.F_row_at HLD.out ib hmb
  obtain rfl : ad = ad2 := Option.some.inj he2
  obtain ⟨x, hx⟩ : ∃ x, L.getD ia [] = x := ⟨_, rfl⟩
  obtain ⟨y, hy⟩ : ∃ y, L.getD ib [] = y := ⟨_, rfl⟩
  rw [hx] at hcell1 hcx1 hFx1 hux hix hlt
  rw [hy] at hcell2 hcx2 hFx2 huy hiy hlt
  have HUX := Aside0.mk hux
  have HUY := Aside0.mk huy
  have HIX := Aside0.mk hix
  have HIY := Aside0.mk hiy
  have HLT := Aside0.mk hlt
  have HFX := Aside0.mk hFx1
  have HFY := Aside0.mk hFx2
  have HCX := Aside0.mk hcx1
  have HCY := Aside0.mk hcx2
  have n1 : (ia : Int) < (L.length : Int) := by omega
  have n2 : (ib : Int) < (L.length : Int) := by omega
  have n3 : (0 : Int) ≤ (ia : Int) := by omega
  have n4 : (0 : Int) ≤ (ib : Int) := by omega
  clear hux huy hix hiy hlt hFx1 hFx2 hcx1 hcx2 hx hy hia hib hma hmb he2 hbz
  gi_wp2_with fail
  gi_quiet (fail)
  gi_wp2_with fail
  refine ⟨trivial, ?_⟩
  have hbq : Below wd.heap.size wd (wd.drewN nq) := pw_below_drewN (Below.refl _ _) nq
  have hidx := dict_Dict_Id.calls (.pointer (some ⟨q, 0, none⟩)) wc.heap.size (some B) X1 cx1 x (wd.drewN nq) ⟨q, rfl, HD.out.below hbq⟩ HFT.out (Kd.F_now (Kd.F_below HFX.out hbq)) HCX.out HUX.out
  rw [HIX.out] at hidx
  refine (callsIn_wide.2 hidx).mono ?_
  rintro e wx ⟨rfl, hb5⟩
  have hbx : Below wd.heap.size wd wx := below_step hbq hb5
  clear hidx hb5 hbq
  gi_wp2_with fail
  refine ⟨trivial, ?_⟩
  have hidy := dict_Dict_Id.calls (.pointer (some ⟨q, 0, none⟩)) wc.heap.size (some B) X2 cx2 y wx ⟨q, rfl, HD.out.below hbx⟩ HFT.out (Kd.F_now (Kd.F_below HFY.out hbx)) HCY.out HUY.out
  rw [HIY.out] at hidy
  refine (callsIn_wide.2 hidy).mono ?_
  rintro e wy ⟨rfl, hb6⟩
  have hby : Below wd.heap.size wd wy := below_step hbx hb6
  have HBY := Aside0.mk hby
  clear hidy hb6 hbx
  gi_wp2_with fail
  refine ⟨trivial, ?_⟩
  refine (callsIn_wide.2 (creellaw16_list.all (some ⟨q, 0, none⟩) _)).mono ?_
  rintro e w' ⟨rfl, rfl⟩
  gi_wp2_with fail
  obtain ⟨w5, hw5⟩ : ∃ w5, (wy.alloc (Obj.cells #[Value.int .i64 0] 3)).alloc (Obj.cells #[Value.pointer (some ⟨q, 0, none⟩)] 34) = w5 := ⟨_, rfl⟩
  rw [hw5]
  have hs5 : w5.heap.size = wy.heap.size + 2 := by rw [← hw5]; simp
  have hb5 : Below wy.heap.size wy w5 := by rw [← hw5]; exact ((Below.refl _ _).alloc (Nat.le_refl _) _).alloc (by simp) _
  have h50 : w5.heap[wy.heap.size]? = some (.cells #[.int .i64 0] 3) := by
   rw [← hw5]
   exact (Below.heap_alloc _ _ _ (by simp)).trans (heap_alloc_new _ _)
  have h51 : w5.cell? ⟨wy.heap.size + 1, 0, none⟩ = some (.pointer (some ⟨q, 0, none⟩)) := by
   have h := heap_alloc_new (wy.alloc (Obj.cells #[Value.int .i64 0] 3)) (Obj.cells #[Value.pointer (some ⟨q, 0, none⟩)] 34)
   rw [World.size_alloc] at h
   rw [← hw5]
   exact cell_of_row _ _ _ _ _ _ h
  clear hw5
  have hsy := hby.size
  have hbd5 : Below wd.heap.size wd w5 := hby.trans (hb5.mono hsy)
  obtain ⟨K0, hK0⟩ : ∃ K0 : Nat → Prop, K0 = fun k => k < wd.heap.size ∨ k = wy.heap.size + 1 := ⟨_, rfl⟩
  have hW7 : ∀ r : Loop, ((w5.alloc (.deferred (some []))).alloc (.loop r)).heap.size = wy.heap.size + 4 := fun r => by simp [hs5]
  have hb7 : ∀ r : Loop, Below w5.heap.size w5 ((w5.alloc (.deferred (some []))).alloc (.loop r)) := fun r => ((Below.refl _ _).alloc (Nat.le_refl _) _).alloc (by simp) _
  have HS5 := Aside0.mk hs5
  clear hs5
  refine Hand.rangeC (w := w5) (gf := 39) (lb := #[.pointer (some ⟨wy.heap.size + 1, 0, none⟩)]) (encs := fun x : Nat × Option Addr × Nat × List Int => #[.int .i64 x.1, .slice x.2.1 x.2.2.2.length x.2.2.1]) (G := fun x W' => x.2.2.2.length ≤ x.2.2.1 ∧ Kd.F (Kd.int .u8) W' (TypB (wy.heap.size + 4) W') x.2.1 x.2.2.2.length x.2.2.2) (Stp := fun A B => Below A.heap.size A B) (Kp := KpK K0) (S := fun xs => xs.map (fun x => (x.1, x.2.2.2)) = dAllL (some B)) (Sp := fun xs => xs.map (fun x => (x.1, x.2.2.2)) <+: dAllL (some B))
   rfl (by omega) rfl trivial (fun args w => Hand.run_enter Try.func39 (by kernel_rfl) rfl args w)
   (fun r => by
    have h := creellaw16_list.seq 9 (by decide) wd ((w5.alloc (.deferred (some []))).alloc (.loop r)) (wy.heap.size + 1) (some ⟨q, 0, none⟩) wc.heap.size (some B) K0 ⟨q, rfl, HD.out⟩ HFT.out hmd (fun k hk => ((hb7 r).block k (by have := HS5.out; omega)).trans (hbd5.block k hk)) (by rw [hW7]; omega) (((hb7 r).cell (World.block_lt_of_cell? _ _ h51)).trans h51) (by rw [hK0]; exact .inr rfl) (fun k hk => by rw [hK0]; exact .inl hk)
    rwa [hW7] at h)
   (fun _ => rfl) (fun pre A => Below wd.heap.size wd A ∧ A.heap[wy.heap.size]? = some (.cells #[.int .i64 pre.length] 3) ∧ pre.length ≤ xn) (fun c pre A => c = .exit 0 ∧ Below wd.heap.size wd A ∧ A.heap[wy.heap.size]? = some (.cells #[.int .i64 xn] 3) ∧ xn < L.length) ?hIs ?hIxs ?hIp ?hIxp ?hGp ?hSk (fun h k => h.trans k) ?hKp ?h0
   (fun z_ a' A => (z_.2.2.2.length ≤ z_.2.2.1 ∧ Kd.F (Kd.int .u8) A (TypB (wy.heap.size + 4) A) z_.2.1 z_.2.2.2.length z_.2.2.2) ∧ a' = { tmps := #[.slice a0 l0.length cap0, .int .u8 (xa : Int), .int .u8 (xb : Int), .int .u8 (xn : Int), undef, undef, undef, .pointer (some ⟨w.heap.size, 0, none⟩), .pointer (some ⟨w.heap.size + 1, 0, none⟩), .bool true, .pointer (some ⟨wb.heap.size, 0, none⟩), .slice A2 b.length c2, .int .i64 0, .pointer (some ⟨q, 0, none⟩), .int .i64 0, .slice X1 x.length cx1, .slice X2 y.length cx2, .int .i64 vi, .bool true, .int .i64 vj, .bool true, .pointer (some ⟨wy.heap.size, 0, none⟩), .int .i64 z_.1, .slice z_.2.1 z_.2.2.2.length z_.2.2.1, .bool true, .slice a0 l0.length cap0, .slice (some ad) L.length c1, .tuple #[.slice A2 b.length c2, .int .i64 0], .slice (some ad) L.length c1, .func (.func 27) #[] #[.pointer (some ⟨w1.heap.size, 0, none⟩)], .tuple #[.slice A2 b.length c2, .int .i64 0], .slice A2 b.length c2, .int .i64 0, .tuple #[.pointer (some ⟨q, 0, none⟩), .int .i64 0], .slice A2 b.length c2, .tuple #[.pointer (some ⟨q, 0, none⟩), .int .i64 0], .pointer (some ⟨q, 0, none⟩), .int .i64 0, .pointer (some ⟨q, 0, none⟩), .bool false, .bool false, .int .i64 0, .bool false, .bool false, .bool false, .int .i64 0, .bool false, .bool false, .slice (some ad) L.length c1, .int .i64 (L.length : Int), .bool false, undef, undef, undef, undef, undef, undef, .slice (some ad) L.length c1, .int .u8 (xa : Int), .int .i64 (xa : Int), .slice (some ad) L.length c1, .int .i64 (L.length : Int), .int .i64 (ia : Int), .pointer (some (ad.add ia)), .slice X1 x.length cx1, .slice (some ad) L.length c1, .int .u8 (xb : Int), .int .i64 (xb : Int), .slice (some ad) L.length c1, .int .i64 (L.length : Int), .int .i64 (ib : Int), .pointer (some (ad.add ib)), .slice X2 y.length cx2, .tuple #[.int .i64 vi, .bool true], .pointer (some ⟨q, 0, none⟩), .slice X1 x.length cx1, .tuple #[.int .i64 vi, .bool true], .int .i64 vi, .bool true, .tuple #[.int .i64 vj, .bool true], .pointer (some ⟨q, 0, none⟩), .slice X2 y.length cx2, .tuple #[.int .i64 vj, .bool true], .int .i64 vj, .bool true, .pointer (some ⟨q, 0, none⟩), .func (.func 39) #[] #[.pointer (some ⟨wy.heap.size + 1, 0, none⟩)], .int .i64 z_.1, .slice z_.2.1 z_.2.2.2.length z_.2.2.1, undef, undef, undef, undef, undef, undef, undef, undef, undef, undef, undef, undef, undef, undef, undef, undef, undef, undef, undef, undef, undef, undef, undef, undef, undef, undef, undef, undef, undef, undef, undef, undef, undef, undef, undef, undef, undef, undef, undef, undef, undef, undef, undef, undef, undef, undef, undef, undef, undef, undef, undef, undef], defers := [] }) ?hAx ?hassign ?hbody ?hdone ?hstop
  case hIs =>
   rintro s A B ⟨h1, h2, h3⟩ hst
   have hlt := (Array.getElem?_eq_some_iff.1 h2).1
   exact ⟨h1.trans (hst.mono h1.size), (hst.block _ hlt).trans h2, h3⟩
  case hIxs =>
   rintro c s A B ⟨h0, h1, h2, h3⟩ hst
   have hlt := (Array.getElem?_eq_some_iff.1 h2).1
   exact ⟨h0, h1.trans (hst.mono h1.size), (hst.block _ hlt).trans h2, h3⟩
  case hIp =>
   rintro s A r r' ⟨h1, h2, h3⟩ hl
   have hs5 := HS5.out
   exact ⟨⟨h1.os, h1.tape, h1.output, by simpa using h1.size, fun k hk => (World.putObj_heap_other (by omega)).trans (h1.block k hk)⟩, (World.putObj_heap_other (by omega)).trans h2, h3⟩
  case hIxp =>
   rintro c s A r r' ⟨h0, h1, h2, h3⟩ hl
   have hs5 := HS5.out
   exact ⟨h0, ⟨h1.os, h1.tape, h1.output, by simpa using h1.size, fun k hk => (World.putObj_heap_other (by omega)).trans (h1.block k hk)⟩, (World.putObj_heap_other (by omega)).trans h2, h3⟩
  case hGp =>
   rintro x A r r' ⟨h1, h2⟩ hl
   have hs5 := HS5.out
   exact ⟨h1, F_typ h2 (fun k hk _ => World.putObj_heap_other (by omega))⟩
  case hSk => intro A B hst hlt; exact ⟨hst.block _ (by omega), hst.block _ hlt⟩
  case hKp =>
   intro A r r' hl
   refine ⟨by simp, fun k hk hlt => World.putObj_heap_other ?_⟩
   rw [hK0] at hk
   have hs5 := HS5.out
   omega
  case h0 =>
   intro r
   have hlt := (Array.getElem?_eq_some_iff.1 h50).1
   have hs5 := HS5.out
   exact ⟨hbd5.trans ((hb7 r).mono (by omega)), ((hb7 r).block _ hlt).trans h50, Nat.zero_le _⟩
  case hAx =>
   rintro x a' A r r' ⟨⟨h1, h2⟩, h4⟩ hl
   have hs5 := HS5.out
   exact ⟨⟨h1, F_typ h2 (fun k hk _ => World.putObj_heap_other (by omega))⟩, h4⟩
  case hassign =>
   rintro lq pre x A K hlt hI hG hK
   gi_wp2_with fail
   exact hK _ _ ⟨rfl, rfl⟩ (KpK.refl _ _) hI ⟨hG, rfl⟩
  case hbody =>
   rintro lq pre ⟨xi, Az, cz, z⟩ a' A hlt ⟨hB, hse, hpn⟩ ⟨⟨hcz, hF⟩, rfl⟩ hsp
   obtain ⟨hxi, hpl, hz⟩ := dAllL_at hsp
   dsimp only at hxi hz hcz hF
   rw [HN.out] at hpl
   rw [HAT.out] at hz
   subst hxi
   have hs5 := HS5.out
   have hsA := (Array.getElem?_eq_some_iff.1 hse).1
   have hltI := (Array.getElem?_eq_some_iff.1 HDI.out).1
   have hltN := (Array.getElem?_eq_some_iff.1 HDN.out).1
   have p0 : A.cell? ⟨wy.heap.size, 0, none⟩ = some (.int .i64 (pre.length : Int)) := cell_of_row _ _ _ _ _ _ hse
   have pf0 : A.frozen? ⟨wy.heap.size, 0, none⟩ = false := by simp [World.frozen?, hse]
   have p1 : A.cell? ⟨w.heap.size, 0, none⟩ = some (.int .u8 (xn : Int)) := cell_of_row _ _ _ _ _ _ ((hB.block _ (by omega)).trans HDN.out)
   have p2 : A.cell? ⟨wb.heap.size, 0, none⟩ = some (.slice (some ad) L.length c1) := cell_of_row _ _ _ _ _ _ ((hB.block _ (by omega)).trans HDI.out)
   have HSE := Aside0.mk hse
   have HBA := Aside0.mk hB
   by_cases hge : xn ≤ pre.length
   ·have hpx : pre.length = xn := by omega
    have d1 : decide ((xn : Int) ≤ (pre.length : Int)) = true := decide_eq_true (by omega)
    have HPX := Aside0.mk hpx
    clear hse hB hF hz hpx hs5 hltI hltN
    gi_wp2_with fail
    refine ⟨⟨rfl, rfl⟩, KpK.refl _ _, rfl, HBA.out, ?_, by have := HPX.out; omega⟩
    rw [← HPX.out]; exact HSE.out
   ·have d1 : decide ((xn : Int) ≤ (pre.length : Int)) = false := decide_eq_false (by omega)
    have d2 : decide ((L.length : Int) ≤ (pre.length : Int)) = false := decide_eq_false (by omega)
    have d2n : decide (L.length ≤ pre.length) = false := decide_eq_false (by omega)
    have d1n : decide (xn ≤ pre.length) = false := decide_eq_false hge
    have d3 : ((pre.length : Int) != (pre.length : Int)) = false := by simp
    obtain ⟨ad3, X3, cx3, he3, hcell3, hcx3, hFx3⟩ := Hand.F_row_at (Kd.F_below HLD.out hB) pre.length hpl
    obtain rfl : ad = ad3 := Option.some.inj he3
    rw [← hz] at hcell3 hcx3 hFx3
    have hst1 := fun n_ : Nat => Kd.C_string (P := Try.prog) (A := Az) (c := cz) Try.underlying26 Try.underlying5 Try.underlying9 (Kd.C_drewN (Kd.F_now hF) n_)
    have hst2 := fun n_ : Nat => Kd.C_string (P := Try.prog) (A := X3) (c := cx3) Try.underlying26 Try.underlying5 Try.underlying9 (Kd.C_drewN (Kd.F_now hFx3) n_)
    have q1 : (pre.length : Int) < (L.length : Int) := by omega
    have q2 : (0 : Int) ≤ (pre.length : Int) := by omega
    clear hse hB hF hz hs5 he3 hcx3 hFx3 hltI hltN
    gi_wp2_with fail
    refine region_quiet_round lq rfl (by kernel_rfl) (by kernel_rfl) (by kernel_rfl) ?_
    repeat (gi_big_quiet_step (fail))
    refine wpQuietIn_nil ?_
    intro _ hw'
    obtain ⟨nq2, hw''⟩ := hw'
    subst hw''
    gi_wp2_with fail
    have hs5 := HS5.out
    have hB := HBA.out
    have hkp : ∀ k_, k_ ≠ wy.heap.size → ((A.drewN nq2).setCell ⟨wy.heap.size, 0, none⟩ (.int .i64 ((pre.length : Int) + 1))).heap[k_]? = A.heap[k_]? := fun k_ hk_ => Below.heap_setCell (A.drewN nq2) ⟨wy.heap.size, 0, none⟩ _ k_ hk_
    have hlen1 : ((pre ++ [(pre.length, Az, cz, z)]).length : Int) = (pre.length : Int) + 1 := by simp
    refine ⟨⟨hkp _ (by omega), hkp _ (by omega)⟩, ⟨Nat.le_of_eq (by simp), fun k_ hk_ hlt_ => hkp k_ (by rw [hK0] at hk_; omega)⟩, ⟨hB.os, hB.tape, hB.output, by simpa using hB.size, fun k_ hk_ => (hkp k_ (by omega)).trans (hB.block k_ hk_)⟩, ?_, by simp; omega⟩
    rw [hlen1]
    have hse : (A.drewN nq2).heap[wy.heap.size]? = some (.cells #[.int .i64 (pre.length : Int)] 3) := HSE.out
    exact heap_setCell_same _ _ _ _ _ _ hse
  case hdone =>
   rintro xs A hS ⟨hB, hse, hpn⟩ hK
   have hxl : xs.length = L.length := by
    have h_ := congrArg List.length hS
    rw [List.length_map, dAllL_len, HN.out] at h_
    exact h_
   have hmin : (if (xn : Int) < (L.length : Int) then (xn : Int) else (L.length : Int)) = (xs.length : Int) := by split <;> omega
   have hmin2 : (if (L.length : Int) < (xn : Int) then (L.length : Int) else (xn : Int)) = (xs.length : Int) := by split <;> omega
   rw [hxl] at hse hmin hmin2 hpn
   have HPN := Aside0.mk hpn
   clear hpn hS hxl
   have hs5 := HS5.out
   have hltI := (Array.getElem?_eq_some_iff.1 HDI.out).1
   have hltN := (Array.getElem?_eq_some_iff.1 HDN.out).1
   have hltR := (Array.getElem?_eq_some_iff.1 HDR.out).1
   have hDR := (hB.block _ hltR).trans HDR.out
   have p0 : A.cell? ⟨wy.heap.size, 0, none⟩ = some (.int .i64 (L.length : Int)) := cell_of_row _ _ _ _ _ _ hse
   have p1 : A.cell? ⟨w.heap.size, 0, none⟩ = some (.int .u8 (xn : Int)) := cell_of_row _ _ _ _ _ _ ((hB.block _ hltN).trans HDN.out)
   have p2 : A.cell? ⟨wb.heap.size, 0, none⟩ = some (.slice (some ad) L.length c1) := cell_of_row _ _ _ _ _ _ ((hB.block _ hltI).trans HDI.out)
   have p3 : A.cell? ⟨w.heap.size + 1, 0, none⟩ = some (.bool false) := cell_of_row _ _ _ _ _ _ hDR
   have pf3 : A.frozen? ⟨w.heap.size + 1, 0, none⟩ = false := by simp [World.frozen?, hDR]
   have hst1 := Kd.C_string (P := Try.prog) (A := X1) (c := cx1) Try.underlying26 Try.underlying5 Try.underlying9 (Kd.F_now (Kd.F_below HFX.out hB))
   have hst2 := Kd.C_string (P := Try.prog) (A := X2) (c := cx2) Try.underlying26 Try.underlying5 Try.underlying9 (Kd.F_now (Kd.F_below HFY.out hB))
   obtain ⟨t, ht⟩ : ∃ t, decide (vi < vj) = t := ⟨_, rfl⟩
   have ht2 : Op.bytesLess (strOfNums x).toList (strOfNums y).toList = t := by rw [← HLT.out]; exact ht
   have HDRA := Aside0.mk hDR
   have HBA := Aside0.mk hB
   have HKK := Aside0.mk hK
   have hsyd : wd.heap.size ≤ wy.heap.size := hsy
   clear hse hB hDR hltI hltN hltR hs5 hK
   gi_wp2_with fail
   all_goals (
    try rw [show ((L.length : Int) == (xn : Int)) = true from by rw [beq_iff_eq]; have := HPN.out; omega]
    have hs5 := HS5.out
    have hB := HBA.out
    have hbd := HBD.out
    have hltR := (Array.getElem?_eq_some_iff.1 HDR.out).1
    obtain ⟨A', hAe⟩ : ∃ A', A.setCell ⟨w.heap.size + 1, 0, none⟩ (.bool true) = A' := ⟨_, rfl⟩
    rw [hAe]
    have hoth : ∀ k_, k_ ≠ w.heap.size + 1 → A'.heap[k_]? = A.heap[k_]? := fun k_ h1 => by
     rw [← hAe]; exact Below.heap_setCell _ _ _ k_ h1
    have g2 : A'.heap[w.heap.size + 1]? = some (.cells #[.bool true] 4) := by
     rw [← hAe]; exact heap_setCell_same _ _ _ _ _ _ HDRA.out
    have hrest : A'.os = A.os ∧ A'.tape = A.tape ∧ A'.output = A.output ∧ A'.heap.size = A.heap.size := by
     rw [← hAe]; exact ⟨rfl, rfl, rfl, by simp⟩
    have hKB := (hoth w5.heap.size (by omega)).trans HKK.out
    refine ⟨by simp, .inl ⟨_, _, rfl, run_takeDeferred hKB, ?_⟩⟩
    obtain ⟨C, hCe⟩ : ∃ C, A'.putObj w5.heap.size (.deferred none) = C := ⟨_, rfl⟩
    rw [hCe]
    have hc : ∀ k_, k_ ≠ w5.heap.size → C.heap[k_]? = A'.heap[k_]? := fun k_ hk_ => by rw [← hCe]; exact World.putObj_heap_other hk_
    have c2_ : C.cell? ⟨w.heap.size + 1, 0, none⟩ = some (.bool true) := cell_of_row _ _ _ _ _ _ ((hc _ (by omega)).trans g2)
    have hCB : C.os = A'.os ∧ C.tape = A'.tape ∧ C.output = A'.output ∧ C.heap.size = A'.heap.size := by rw [← hCe]; exact ⟨rfl, rfl, rfl, by simp⟩
    refine ⟨.bool true, ?_, rfl, ?_⟩
    ·simp [results, Try.f8, go_sem, c2_]
    ·have hbw := hbd.trans (hB.mono hbd.size)
     exact ⟨hCB.1.trans (hrest.1.trans hbw.os), hCB.2.1.trans (hrest.2.1.trans hbw.tape), hCB.2.2.1.trans (hrest.2.2.1.trans hbw.output), by rw [hCB.2.2.2, hrest.2.2.2]; exact hbw.size, fun k_ hk_ => (hc k_ (by omega)).trans ((hoth k_ (by omega)).trans (hbw.block k_ hk_))⟩)
  case hstop =>
   rintro c pre A hsp ⟨rfl, hB, hse, hpn⟩ hK
   have hmin : (if (xn : Int) < (L.length : Int) then (xn : Int) else (L.length : Int)) = (xn : Int) := by rw [if_pos (by omega)]
   have hmin2 : (if (L.length : Int) < (xn : Int) then (L.length : Int) else (xn : Int)) = (xn : Int) := by rw [if_neg (by omega)]
   clear hpn hsp
   have hs5 := HS5.out
   have hltI := (Array.getElem?_eq_some_iff.1 HDI.out).1
   have hltN := (Array.getElem?_eq_some_iff.1 HDN.out).1
   have hltR := (Array.getElem?_eq_some_iff.1 HDR.out).1
   have hDR := (hB.block _ hltR).trans HDR.out
   have p0 : A.cell? ⟨wy.heap.size, 0, none⟩ = some (.int .i64 (xn : Int)) := cell_of_row _ _ _ _ _ _ hse
   have p1 : A.cell? ⟨w.heap.size, 0, none⟩ = some (.int .u8 (xn : Int)) := cell_of_row _ _ _ _ _ _ ((hB.block _ hltN).trans HDN.out)
   have p2 : A.cell? ⟨wb.heap.size, 0, none⟩ = some (.slice (some ad) L.length c1) := cell_of_row _ _ _ _ _ _ ((hB.block _ hltI).trans HDI.out)
   have p3 : A.cell? ⟨w.heap.size + 1, 0, none⟩ = some (.bool false) := cell_of_row _ _ _ _ _ _ hDR
   have pf3 : A.frozen? ⟨w.heap.size + 1, 0, none⟩ = false := by simp [World.frozen?, hDR]
   have hst1 := Kd.C_string (P := Try.prog) (A := X1) (c := cx1) Try.underlying26 Try.underlying5 Try.underlying9 (Kd.F_now (Kd.F_below HFX.out hB))
   have hst2 := Kd.C_string (P := Try.prog) (A := X2) (c := cx2) Try.underlying26 Try.underlying5 Try.underlying9 (Kd.F_now (Kd.F_below HFY.out hB))
   obtain ⟨t, ht⟩ : ∃ t, decide (vi < vj) = t := ⟨_, rfl⟩
   have ht2 : Op.bytesLess (strOfNums x).toList (strOfNums y).toList = t := by rw [← HLT.out]; exact ht
   have HDRA := Aside0.mk hDR
   have HBA := Aside0.mk hB
   have HKK := Aside0.mk hK
   have hsyd : wd.heap.size ≤ wy.heap.size := hsy
   clear hse hB hDR hltI hltN hltR hs5 hK
   gi_wp2_with fail
   all_goals (
    have hs5 := HS5.out
    have hB := HBA.out
    have hbd := HBD.out
    have hltR := (Array.getElem?_eq_some_iff.1 HDR.out).1
    obtain ⟨A', hAe⟩ : ∃ A', A.setCell ⟨w.heap.size + 1, 0, none⟩ (.bool true) = A' := ⟨_, rfl⟩
    rw [hAe]
    have hoth : ∀ k_, k_ ≠ w.heap.size + 1 → A'.heap[k_]? = A.heap[k_]? := fun k_ h1 => by
     rw [← hAe]; exact Below.heap_setCell _ _ _ k_ h1
    have g2 : A'.heap[w.heap.size + 1]? = some (.cells #[.bool true] 4) := by
     rw [← hAe]; exact heap_setCell_same _ _ _ _ _ _ HDRA.out
    have hrest : A'.os = A.os ∧ A'.tape = A.tape ∧ A'.output = A.output ∧ A'.heap.size = A.heap.size := by
     rw [← hAe]; exact ⟨rfl, rfl, rfl, by simp⟩
    have hKB := (hoth w5.heap.size (by omega)).trans HKK.out
    refine ⟨by simp, .inl ⟨_, _, rfl, run_takeDeferred hKB, ?_⟩⟩
    obtain ⟨C, hCe⟩ : ∃ C, A'.putObj w5.heap.size (.deferred none) = C := ⟨_, rfl⟩
    rw [hCe]
    have hc : ∀ k_, k_ ≠ w5.heap.size → C.heap[k_]? = A'.heap[k_]? := fun k_ hk_ => by rw [← hCe]; exact World.putObj_heap_other hk_
    have c2_ : C.cell? ⟨w.heap.size + 1, 0, none⟩ = some (.bool true) := cell_of_row _ _ _ _ _ _ ((hc _ (by omega)).trans g2)
    have hCB : C.os = A'.os ∧ C.tape = A'.tape ∧ C.output = A'.output ∧ C.heap.size = A'.heap.size := by rw [← hCe]; exact ⟨rfl, rfl, rfl, by simp⟩
    refine ⟨.bool true, ?_, rfl, ?_⟩
    ·simp [results, Try.f8, go_sem, c2_]
    ·have hbw := hbd.trans (hB.mono hbd.size)
     exact ⟨hCB.1.trans (hrest.1.trans hbw.os), hCB.2.1.trans (hrest.2.1.trans hbw.tape), hCB.2.2.1.trans (hrest.2.2.1.trans hbw.output), by rw [hCB.2.2.2, hrest.2.2.2]; exact hbw.size, fun k_ hk_ => (hc k_ (by omega)).trans ((hoth k_ (by omega)).trans (hbw.block k_ hk_))⟩)

end Go.Proofs.Ytaiechbdcddalaa.Print
