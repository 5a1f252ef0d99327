/- Words of the print, of which only those stand here that this claim names. -/
-- Written by a program of this session (wip/cprint.py), which calls the kit's print and adds contracts proved by hand.
import Derived.Test.YtaiechbdcddalaaPrint0
import Derived.Test.YtaiechbdcddalaaPrint10
import Derived.Test.YtaiechbdcddalaaPrint11
import Derived.Test.YtaiechbdcddalaaPrint13
namespace Go.Proofs.Ytaiechbdcddalaa.Print
open Go.RowKit Go.Proofs.YtaiechbdcddalaaW.PrintWords Go.Proofs.YtaiechbdcddalaaW.PrintLast Go.Proofs.YtaiechbdcddalaaW.PrintMore
attribute [local go_sem] max2_int min2_int max_two min_two max_three min_three max_four min_four   -- for this text's walks alone
set_option linter.unusedVariables false
set_option linter.unusedSimpArgs false

/-! ### creelref01_Take: function 54 -/
def creelref01_Take.l0 : Nat → List Int → Int → Int → Int → Option (Int × List Int × Int)
 | 0, _, _, _, _ => none
 | k + 1, x0, x5, x6, x7 => if x7 < 10 then (if x7 ≥ (x0.length : Int) then (some (0, ([] : List Int), 5)) else (if 0 ≤ x7 then (if x7 < (x0.length : Int) then (if (IntKind.u64.wrap (rd x0 x7)) < 128 then (if (IntKind.u64.wrap (rd x0 x7)) = 0 then (if x7 > 0 then (some (0, ([] : List Int), 6)) else (if x7 = 9 then (if (IntKind.u64.wrap (rd x0 x7)) > 1 then (some (0, ([] : List Int), 6)) else ((some (([] : List Int) : List Int)).bind fun y455 => (if 0 ≤ (wrap64 (x7 + 1)) then (if (wrap64 (x7 + 1)) ≤ (x0.length : Int) then (if y455.length + (x0.drop ((wrap64 (x7 + 1)) : Int).toNat).length < 140737488355328 then (some (IntKind.u64.wrap (x5 + (IntKind.u64.wrap ((IntKind.u64.wrap (rd x0 x7)) * x6))), (y455 ++ (x0.drop ((wrap64 (x7 + 1)) : Int).toNat)), 0)) else (none)) else (none)) else (none)))) else ((some (([] : List Int) : List Int)).bind fun y462 => (if 0 ≤ (wrap64 (x7 + 1)) then (if (wrap64 (x7 + 1)) ≤ (x0.length : Int) then (if y462.length + (x0.drop ((wrap64 (x7 + 1)) : Int).toNat).length < 140737488355328 then (some (IntKind.u64.wrap (x5 + (IntKind.u64.wrap ((IntKind.u64.wrap (rd x0 x7)) * x6))), (y462 ++ (x0.drop ((wrap64 (x7 + 1)) : Int).toNat)), 0)) else (none)) else (none)) else (none))))) else (if x7 = 9 then (if (IntKind.u64.wrap (rd x0 x7)) > 1 then (some (0, ([] : List Int), 6)) else ((some (([] : List Int) : List Int)).bind fun y469 => (if 0 ≤ (wrap64 (x7 + 1)) then (if (wrap64 (x7 + 1)) ≤ (x0.length : Int) then (if y469.length + (x0.drop ((wrap64 (x7 + 1)) : Int).toNat).length < 140737488355328 then (some (IntKind.u64.wrap (x5 + (IntKind.u64.wrap ((IntKind.u64.wrap (rd x0 x7)) * x6))), (y469 ++ (x0.drop ((wrap64 (x7 + 1)) : Int).toNat)), 0)) else (none)) else (none)) else (none)))) else ((some (([] : List Int) : List Int)).bind fun y476 => (if 0 ≤ (wrap64 (x7 + 1)) then (if (wrap64 (x7 + 1)) ≤ (x0.length : Int) then (if y476.length + (x0.drop ((wrap64 (x7 + 1)) : Int).toNat).length < 140737488355328 then (some (IntKind.u64.wrap (x5 + (IntKind.u64.wrap ((IntKind.u64.wrap (rd x0 x7)) * x6))), (y476 ++ (x0.drop ((wrap64 (x7 + 1)) : Int).toNat)), 0)) else (none)) else (none)) else (none))))) else (creelref01_Take.l0 k x0 (IntKind.u64.wrap (x5 + (IntKind.u64.wrap ((IntKind.u64.wrap ((IntKind.u64.wrap (rd x0 x7)) - 128)) * x6)))) (IntKind.u64.wrap (x6 * 128)) (wrap64 (x7 + 1)))) else (none)) else (none))) else (some (0, ([] : List Int), 6))
def creelref01_Take.f (k : Nat) (l0 : List Int) : Option (Int × List Int × Int) := creelref01_Take.l0 k l0 0 1 0
set_option maxHeartbeats 8000000 in
set_option maxRecDepth 100000 in
theorem creelref01_Take.calls (k : Nat) (A0 : Option Addr) (c0 : Nat) (l0 : List Int) (r1 : Int) (r2 : List Int) (r3 : Int) (w : World) (hr0 : Kd.C (Kd.int .u8) w A0 l0.length l0) (hc0 : l0.length ≤ c0) (h : creelref01_Take.f k l0 = some (r1, r2, r3)) :
  Calls Try.prog 54 #[.slice A0 l0.length c0] w fun e w' => ∃ v1_ : Value, e = .returned (.tuple #[.int .u64 r1, v1_, .int .i64 r3]) ∧ Kd.R (Kd.int .u8) 5 w' w.heap.size (fun _ => True) v1_ r2 ∧ Below w.heap.size w w' := by
 have HR0 := Aside0.mk hr0
 have HC0 := Aside0.mk hc0
 clear hr0 hc0
 have HB := Aside0.mk (Below.refl w.heap.size w)
 have H : (creelref01_Take.l0 k l0 0 1 0) = some (r1, r2, r3) := h
 clear h
 have H' := Aside0.mk H
 clear H
 go_enter Try.func54, Try.ntmps54
 go_wp2
 go_loopg [5, 6, 7] k (fun kq v5 v6 v7 w' => ∃ (x5_1 : Int) (x6_1 : Int) (x7_1 : Int), v5 = .int .u64 x5_1 ∧ v6 = .int .u64 x6_1 ∧ v7 = .int .i64 x7_1 ∧ Aside0 (creelref01_Take.l0 kq l0 x5_1 x6_1 x7_1 = some (r1, r2, r3)) ∧ Aside0 (kq ≤ k) ∧ Aside0 (Below w.heap.size w w'))
 case atStart => exact ⟨(0), (1), (0), (by first | rfl | (simp; done) | (simp [*]; done)), (by first | rfl | (simp; done) | (simp [*]; done)), (by first | rfl | (simp; done) | (simp [*]; done)), H', ⟨Nat.le_refl _⟩, ⟨by repeat (first | (with_reducible first | exact HB.out | apply below_alloc | apply pw_below_drewN | apply below_drew1) | exact HB.out)⟩⟩
 case round =>
  clear H'
  obtain ⟨x5_1, x6_1, x7_1, rfl, rfl, rfl, HA, HK1, HB⟩ := hrel
  cases gk with
  | zero => exact absurd HA.out (by simp [creelref01_Take.l0])
  | succ k1 =>
   have H := HA.out
   clear HA
   simp only [creelref01_Take.l0] at H
   by_cases c2 : x7_1 < 10
   ·rw [if_pos c2] at H
    have c2b0 : decide (x7_1 < 10) = true := decide_eq_true c2
    clear c2
    by_cases c3 : x7_1 ≥ (l0.length : Int)
    ·rw [if_pos c3] at H
     have c3b0 : decide ((l0.length : Int) ≤ x7_1) = true := decide_eq_true c3
     clear c3
     simp only [Option.some.injEq, Prod.mk.injEq] at H
     obtain ⟨rfl, rfl, rfl⟩ := H
     go_wp2
     go_ret3
     exact ⟨_, by first | rfl | (simp [errW_none, errW_some] <;> rfl) | (simp [*, errW_none, errW_some] <;> rfl), by first | exact Kd.R_nil _ _ _ _ _ | exact Kd.N_nil _ _ _ _ _ | exact Kd.V_nil _ _ _ _ _ | exact Kd.Q_nil _ _ _ _ _ | exact Kd.S_nil _ _ _ _ _, by repeat (first | (with_reducible first | exact HB.out | apply below_alloc | apply pw_below_drewN | apply below_drew1) | exact HB.out)⟩
    ·rw [if_neg c3] at H
     have c3b0 : decide ((l0.length : Int) ≤ x7_1) = false := decide_eq_false c3
     clear c3
     by_cases c4 : 0 ≤ x7_1
     ·rw [if_pos c4] at H
      have c4b0 : decide (0 ≤ x7_1) = true := decide_eq_true c4
      clear c4
      by_cases c5 : x7_1 < (l0.length : Int)
      ·rw [if_pos c5] at H
       have c5b0 : decide (x7_1 < (l0.length : Int)) = true := decide_eq_true c5
       clear c5
       by_cases c6 : (IntKind.u64.wrap (rd l0 x7_1)) < 128
       ·rw [if_pos c6] at H
        have c6b0 : decide ((IntKind.u64.wrap (rd l0 x7_1)) < 128) = true := decide_eq_true c6
        clear c6
        by_cases c7 : (IntKind.u64.wrap (rd l0 x7_1)) = 0
        ·rw [if_pos c7] at H
         have c7b0 : ((IntKind.u64.wrap (rd l0 x7_1)) == 0) = true := beq_iff_eq.mpr c7
         have c7b1 : ((IntKind.u64.wrap (rd l0 x7_1)) != 0) = false := bne_eq_false_iff_eq.mpr c7
         clear c7
         by_cases c8 : x7_1 > 0
         ·rw [if_pos c8] at H
          have c8b0 : decide (0 < x7_1) = true := decide_eq_true c8
          clear c8
          simp only [Option.some.injEq, Prod.mk.injEq] at H
          obtain ⟨rfl, rfl, rfl⟩ := H
          have p454 : 0 ≤ (x7_1 : Int) := of_decide_eq_true (by first | (with_reducible assumption) | assumption)
          have q454 : x7_1 < (l0.length : Int) := of_decide_eq_true (by first | (with_reducible assumption) | assumption)
          obtain ⟨ad454, e454, hx454_0⟩ := Kd.at_int HR0.out x7_1 p454 q454
          cases e454
          try replace hx454_0 := (HB.out.cell (World.block_lt_of_cell? w _ hx454_0)).trans hx454_0
          replace p454 := eq_true p454
          replace q454 := eq_true q454
          go_wp2
          go_ret3
          exact ⟨_, by first | rfl | (simp [errW_none, errW_some] <;> rfl) | (simp [*, errW_none, errW_some] <;> rfl), by first | exact Kd.R_nil _ _ _ _ _ | exact Kd.N_nil _ _ _ _ _ | exact Kd.V_nil _ _ _ _ _ | exact Kd.Q_nil _ _ _ _ _ | exact Kd.S_nil _ _ _ _ _, by repeat (first | (with_reducible first | exact HB.out | apply below_alloc | apply pw_below_drewN | apply below_drew1) | exact HB.out)⟩
         ·rw [if_neg c8] at H
          have c8b0 : decide (0 < x7_1) = false := decide_eq_false c8
          clear c8
          by_cases c9 : x7_1 = 9
          ·rw [if_pos c9] at H
           have c9b0 : (x7_1 == 9) = true := beq_iff_eq.mpr c9
           have c9b1 : (x7_1 != 9) = false := bne_eq_false_iff_eq.mpr c9
           clear c9
           by_cases c10 : (IntKind.u64.wrap (rd l0 x7_1)) > 1
           ·rw [if_pos c10] at H
            have c10b0 : decide (1 < (IntKind.u64.wrap (rd l0 x7_1))) = true := decide_eq_true c10
            clear c10
            simp only [Option.some.injEq, Prod.mk.injEq] at H
            obtain ⟨rfl, rfl, rfl⟩ := H
            have p454 : 0 ≤ (x7_1 : Int) := of_decide_eq_true (by first | (with_reducible assumption) | assumption)
            have q454 : x7_1 < (l0.length : Int) := of_decide_eq_true (by first | (with_reducible assumption) | assumption)
            obtain ⟨ad454, e454, hx454_0⟩ := Kd.at_int HR0.out x7_1 p454 q454
            cases e454
            try replace hx454_0 := (HB.out.cell (World.block_lt_of_cell? w _ hx454_0)).trans hx454_0
            replace p454 := eq_true p454
            replace q454 := eq_true q454
            go_wp2
            go_ret3
            exact ⟨_, by first | rfl | (simp [errW_none, errW_some] <;> rfl) | (simp [*, errW_none, errW_some] <;> rfl), by first | exact Kd.R_nil _ _ _ _ _ | exact Kd.N_nil _ _ _ _ _ | exact Kd.V_nil _ _ _ _ _ | exact Kd.Q_nil _ _ _ _ _ | exact Kd.S_nil _ _ _ _ _, by repeat (first | (with_reducible first | exact HB.out | apply below_alloc | apply pw_below_drewN | apply below_drew1) | exact HB.out)⟩
           ·rw [if_neg c10] at H
            have c10b0 : decide (1 < (IntKind.u64.wrap (rd l0 x7_1))) = false := decide_eq_false c10
            clear c10
            obtain ⟨y455, hy455⟩ : ∃ y_ : List Int, y_ = (([] : List Int)) := ⟨_, rfl⟩
            replace H : (if 0 ≤ (wrap64 (x7_1 + 1)) then (if (wrap64 (x7_1 + 1)) ≤ (l0.length : Int) then (if y455.length + (l0.drop ((wrap64 (x7_1 + 1)) : Int).toNat).length < 140737488355328 then (some (IntKind.u64.wrap (x5_1 + (IntKind.u64.wrap ((IntKind.u64.wrap (rd l0 x7_1)) * x6_1))), (y455 ++ (l0.drop ((wrap64 (x7_1 + 1)) : Int).toNat)), 0)) else (none)) else (none)) else (none)) = some (r1, r2, r3) := by first | (rw [hy455]; with_reducible exact H) | (have H2_ := (Option.bind_some _ _).symm.trans H; rw [hy455]; with_reducible exact H2_) | (have H2_ := (Option.bind_some _ _).symm.trans H; with_reducible exact H2_) | with_reducible exact H | (rw [hy455]; exact H) | exact H
            have Ny455 := Aside0.mk hy455
            clear hy455
            obtain ⟨ji11, hji11⟩ : ∃ j_ : Int, (wrap64 (x7_1 + 1)) = j_ := ⟨_, rfl⟩
            replace H : (if 0 ≤ (ji11) then (if (ji11) ≤ (l0.length : Int) then (if y455.length + (l0.drop ((ji11) : Int).toNat).length < 140737488355328 then (some (IntKind.u64.wrap (x5_1 + (IntKind.u64.wrap ((IntKind.u64.wrap (rd l0 x7_1)) * x6_1))), (y455 ++ (l0.drop ((ji11) : Int).toNat)), 0)) else (none)) else (none)) else (none)) = some (r1, r2, r3) := by first | (rw [hji11] at H; exact H) | (simp only [hji11] at H ⊢; exact H)
            have hji11w : (IntKind.i64.wrap (x7_1 + 1)) = ji11 := (i64_w _).trans hji11
            by_cases c12 : 0 ≤ (ji11)
            ·rw [if_pos c12] at H
             have c12b0 := eq_true c12
             have c12b1 : decide (0 ≤ (ji11)) = true := decide_eq_true c12
             clear c12
             by_cases c13 : (ji11) ≤ (l0.length : Int)
             ·rw [if_pos c13] at H
              have c13b0 := eq_true c13
              have c13b1 : decide ((ji11) ≤ (l0.length : Int)) = true := decide_eq_true c13
              clear c13
              by_cases c14 : y455.length + (l0.drop ((ji11) : Int).toNat).length < 140737488355328
              ·rw [if_pos c14] at H
               have LMc14 := Aside0.mk c14
               clear c14
               obtain ⟨y459, hy459⟩ : ∃ y_ : List Int, y_ = (y455 ++ (l0.drop ((ji11) : Int).toNat)) := ⟨_, rfl⟩
               replace H : (some (IntKind.u64.wrap (x5_1 + (IntKind.u64.wrap ((IntKind.u64.wrap (rd l0 x7_1)) * x6_1))), y459, 0)) = some (r1, r2, r3) := by first | (rw [hy459]; with_reducible exact H) | (have H2_ := (Option.bind_some _ _).symm.trans H; rw [hy459]; with_reducible exact H2_) | (have H2_ := (Option.bind_some _ _).symm.trans H; with_reducible exact H2_) | with_reducible exact H | (rw [hy459]; exact H) | exact H
               have Ny459 := Aside0.mk hy459
               clear hy459
               simp only [Option.some.injEq, Prod.mk.injEq] at H
               obtain ⟨rfl, rfl, rfl⟩ := H
               have p454 : 0 ≤ (x7_1 : Int) := of_decide_eq_true (by first | (with_reducible assumption) | assumption)
               have q454 : x7_1 < (l0.length : Int) := of_decide_eq_true (by first | (with_reducible assumption) | assumption)
               obtain ⟨ad454, e454, hx454_0⟩ := Kd.at_int HR0.out x7_1 p454 q454
               cases e454
               try replace hx454_0 := (HB.out.cell (World.block_lt_of_cell? w _ hx454_0)).trans hx454_0
               replace p454 := eq_true p454
               replace q454 := eq_true q454
               go_wp2_with (first | ((with_reducible refine gate_dst (N := 43) rfl ?_); refine Kd.R_lit (Kd.int .u8) _ 5 ?hg (N := 43) ?hd (xs := ([] : List Int)) (inner := []) (ok := fun _ => True) (okp := fun _ => True) ?hr ?hp (fun _ hk => hk) trivial (Below.refl _ _) (Nat.le_refl _) (by simp) ?_; (case hd => rfl); (case hg => rfl); (case hr => first | (go_simp; done) | (go_simp; rfl)); (case hp => exact (Reps.none _ _)); intro v456 w15 ho16 hb hg_ hnew_; clear hg_ hnew_; (first | rw [← Ny455.out] at ho16 | (simp only [Int.reduceToNat] at ho16; rw [← Ny455.out] at ho16)); have n0_ := Aside0.mk (Kd.R_lower ho16 (below_size (by repeat (first | (with_reducible first | exact HB.out | apply below_alloc | apply pw_below_drewN | apply below_drew1) | exact HB.out)))); have n1_ := Aside0.mk (below_step (by repeat (first | (with_reducible first | exact HB.out | apply below_alloc | apply pw_below_drewN | apply below_drew1) | exact HB.out)) hb); clear HB; have HO457 := n0_; have HB := n1_; clear n0_ n1_; clear hb ho16; obtain ⟨i017, hi017, _, hsz17, _⟩ := info_parts info5; obtain ⟨A17, hcut17, hA17, hC17⟩ := print_drop_of (P := Try.prog) (Value.int .u8) 0 26 5 .i64 Try.underlying26 hi017 hsz17 (some ad454) c0 l0 (ji11) (of_decide_eq_true (by first | (with_reducible assumption) | assumption)) (of_decide_eq_true (by first | (with_reducible assumption) | assumption)) HC0.out; have HR458 := Aside0.mk (Kd.C_of_reads (h1 := fun _ => rfl) (hA17 _ (Kd.reads_of_C HR0.out))); have HC458 := Aside0.mk hC17; clear hA17 hC17 hi017 hsz17) | ((with_reducible refine gate_builtin (b := .append) (xs := #[.tmp 43, .tmp 47]) rfl ?_); at_builtin; refine Kd.R_append_rows (Kd.int .u8) (w0 := w) w.heap.size rfl (.tmp 43) (.tmp 47) 26 5 (.int .u8 0) 1 rfl Try.underlying26 info5 rfl (by decide) (by omega) v456 y455 (l0.drop ((ji11) : Int).toNat) _ _ _ (fun _ => True) (fun _ => False) rfl rfl ?aO ?aR (fun _ _ h => h) (fun _ h => h.elim) ?aF ?aB ?aS ?aL ?_; (case aR => first | (rw [← show (l0.drop ((ji11) : Int).toNat).length = (l0.length - (ji11).toNat) from List.length_drop]; repeat (first | exact (Kd.C_below HR458.out HB.out) | (with_reducible refine Kd.C_alloc ?_ _) | (with_reducible refine Kd.C_drewN ?_ _) | (with_reducible refine Kd.C_drew ?_))) | (repeat (first | exact (Kd.C_below HR458.out HB.out) | (with_reducible refine Kd.C_alloc ?_ _) | (with_reducible refine Kd.C_drewN ?_ _) | (with_reducible refine Kd.C_drew ?_)))); (case aB => exact (by repeat (first | (with_reducible first | exact HB.out | apply below_alloc | apply pw_below_drewN | apply below_drew1) | exact HB.out))); (case aF => exact (fun _ _ => trivial)); (case aO => exact (by (with_reducible repeat (first | apply Kd.R_alloc | apply Kd.R_drewN | apply Kd.R_drew)); exact HO457.out)); (case aS => exact (below_size (by repeat (first | (with_reducible first | exact HB.out | apply below_alloc | apply pw_below_drewN | apply below_drew1) | exact HB.out)))); (case aL => have := LMc14.out; have hlx_ := (show (l0.drop ((ji11) : Int).toNat).length = (l0.length - (ji11).toNat) from List.length_drop); omega); intro v460 w18 ho hb hg hat; rw [← Ny459.out] at ho; have n0_ := Aside0.mk (hb); have n1_ := Aside0.mk (ho); clear HB; clear HO457; have HB := n0_; have HO461 := n1_; clear n0_ n1_; clear ho hb hg hat))
               go_ret3
               exact ⟨_, by first | rfl | (simp [errW_none, errW_some] <;> rfl) | (simp only [← hji11]; first | rfl | (simp [errW_none, errW_some] <;> rfl)) | (simp [*, errW_none, errW_some] <;> rfl), by (with_reducible repeat (first | apply Kd.R_alloc | apply Kd.R_drewN | apply Kd.R_drew)); exact HO461.out, by repeat (first | (with_reducible first | exact HB.out | apply below_alloc | apply pw_below_drewN | apply below_drew1) | exact HB.out)⟩
              ·rw [if_neg c14] at H
               exact absurd H (by simp)
             ·rw [if_neg c13] at H
              exact absurd H (by simp)
            ·rw [if_neg c12] at H
             exact absurd H (by simp)
          ·rw [if_neg c9] at H
           have c9b0 : (x7_1 == 9) = false := beq_eq_false_iff_ne.mpr c9
           have c9b1 : (x7_1 != 9) = true := bne_iff_ne.mpr c9
           obtain ⟨y462, hy462⟩ : ∃ y_ : List Int, y_ = (([] : List Int)) := ⟨_, rfl⟩
           replace H : (if 0 ≤ (wrap64 (x7_1 + 1)) then (if (wrap64 (x7_1 + 1)) ≤ (l0.length : Int) then (if y462.length + (l0.drop ((wrap64 (x7_1 + 1)) : Int).toNat).length < 140737488355328 then (some (IntKind.u64.wrap (x5_1 + (IntKind.u64.wrap ((IntKind.u64.wrap (rd l0 x7_1)) * x6_1))), (y462 ++ (l0.drop ((wrap64 (x7_1 + 1)) : Int).toNat)), 0)) else (none)) else (none)) else (none)) = some (r1, r2, r3) := by first | (rw [hy462]; with_reducible exact H) | (have H2_ := (Option.bind_some _ _).symm.trans H; rw [hy462]; with_reducible exact H2_) | (have H2_ := (Option.bind_some _ _).symm.trans H; with_reducible exact H2_) | with_reducible exact H | (rw [hy462]; exact H) | exact H
           have Ny462 := Aside0.mk hy462
           clear hy462
           obtain ⟨ji19, hji19⟩ : ∃ j_ : Int, (wrap64 (x7_1 + 1)) = j_ := ⟨_, rfl⟩
           replace H : (if 0 ≤ (ji19) then (if (ji19) ≤ (l0.length : Int) then (if y462.length + (l0.drop ((ji19) : Int).toNat).length < 140737488355328 then (some (IntKind.u64.wrap (x5_1 + (IntKind.u64.wrap ((IntKind.u64.wrap (rd l0 x7_1)) * x6_1))), (y462 ++ (l0.drop ((ji19) : Int).toNat)), 0)) else (none)) else (none)) else (none)) = some (r1, r2, r3) := by first | (rw [hji19] at H; exact H) | (simp only [hji19] at H ⊢; exact H)
           have hji19w : (IntKind.i64.wrap (x7_1 + 1)) = ji19 := (i64_w _).trans hji19
           by_cases c20 : 0 ≤ (ji19)
           ·rw [if_pos c20] at H
            have c20b0 := eq_true c20
            have c20b1 : decide (0 ≤ (ji19)) = true := decide_eq_true c20
            clear c20
            by_cases c21 : (ji19) ≤ (l0.length : Int)
            ·rw [if_pos c21] at H
             have c21b0 := eq_true c21
             have c21b1 : decide ((ji19) ≤ (l0.length : Int)) = true := decide_eq_true c21
             clear c21
             by_cases c22 : y462.length + (l0.drop ((ji19) : Int).toNat).length < 140737488355328
             ·rw [if_pos c22] at H
              have LMc22 := Aside0.mk c22
              clear c22
              obtain ⟨y466, hy466⟩ : ∃ y_ : List Int, y_ = (y462 ++ (l0.drop ((ji19) : Int).toNat)) := ⟨_, rfl⟩
              replace H : (some (IntKind.u64.wrap (x5_1 + (IntKind.u64.wrap ((IntKind.u64.wrap (rd l0 x7_1)) * x6_1))), y466, 0)) = some (r1, r2, r3) := by first | (rw [hy466]; with_reducible exact H) | (have H2_ := (Option.bind_some _ _).symm.trans H; rw [hy466]; with_reducible exact H2_) | (have H2_ := (Option.bind_some _ _).symm.trans H; with_reducible exact H2_) | with_reducible exact H | (rw [hy466]; exact H) | exact H
              have Ny466 := Aside0.mk hy466
              clear hy466
              simp only [Option.some.injEq, Prod.mk.injEq] at H
              obtain ⟨rfl, rfl, rfl⟩ := H
              have p454 : 0 ≤ (x7_1 : Int) := of_decide_eq_true (by first | (with_reducible assumption) | assumption)
              have q454 : x7_1 < (l0.length : Int) := of_decide_eq_true (by first | (with_reducible assumption) | assumption)
              obtain ⟨ad454, e454, hx454_0⟩ := Kd.at_int HR0.out x7_1 p454 q454
              cases e454
              try replace hx454_0 := (HB.out.cell (World.block_lt_of_cell? w _ hx454_0)).trans hx454_0
              replace p454 := eq_true p454
              replace q454 := eq_true q454
              go_wp2_with (first | ((with_reducible refine gate_dst (N := 43) rfl ?_); refine Kd.R_lit (Kd.int .u8) _ 5 ?hg (N := 43) ?hd (xs := ([] : List Int)) (inner := []) (ok := fun _ => True) (okp := fun _ => True) ?hr ?hp (fun _ hk => hk) trivial (Below.refl _ _) (Nat.le_refl _) (by simp) ?_; (case hd => rfl); (case hg => rfl); (case hr => first | (go_simp; done) | (go_simp; rfl)); (case hp => exact (Reps.none _ _)); intro v463 w23 ho24 hb hg_ hnew_; clear hg_ hnew_; (first | rw [← Ny462.out] at ho24 | (simp only [Int.reduceToNat] at ho24; rw [← Ny462.out] at ho24)); have n0_ := Aside0.mk (Kd.R_lower ho24 (below_size (by repeat (first | (with_reducible first | exact HB.out | apply below_alloc | apply pw_below_drewN | apply below_drew1) | exact HB.out)))); have n1_ := Aside0.mk (below_step (by repeat (first | (with_reducible first | exact HB.out | apply below_alloc | apply pw_below_drewN | apply below_drew1) | exact HB.out)) hb); clear HB; have HO464 := n0_; have HB := n1_; clear n0_ n1_; clear hb ho24; obtain ⟨i025, hi025, _, hsz25, _⟩ := info_parts info5; obtain ⟨A25, hcut25, hA25, hC25⟩ := print_drop_of (P := Try.prog) (Value.int .u8) 0 26 5 .i64 Try.underlying26 hi025 hsz25 (some ad454) c0 l0 (ji19) (of_decide_eq_true (by first | (with_reducible assumption) | assumption)) (of_decide_eq_true (by first | (with_reducible assumption) | assumption)) HC0.out; have HR465 := Aside0.mk (Kd.C_of_reads (h1 := fun _ => rfl) (hA25 _ (Kd.reads_of_C HR0.out))); have HC465 := Aside0.mk hC25; clear hA25 hC25 hi025 hsz25) | ((with_reducible refine gate_builtin (b := .append) (xs := #[.tmp 43, .tmp 47]) rfl ?_); at_builtin; refine Kd.R_append_rows (Kd.int .u8) (w0 := w) w.heap.size rfl (.tmp 43) (.tmp 47) 26 5 (.int .u8 0) 1 rfl Try.underlying26 info5 rfl (by decide) (by omega) v463 y462 (l0.drop ((ji19) : Int).toNat) _ _ _ (fun _ => True) (fun _ => False) rfl rfl ?aO ?aR (fun _ _ h => h) (fun _ h => h.elim) ?aF ?aB ?aS ?aL ?_; (case aR => first | (rw [← show (l0.drop ((ji19) : Int).toNat).length = (l0.length - (ji19).toNat) from List.length_drop]; repeat (first | exact (Kd.C_below HR465.out HB.out) | (with_reducible refine Kd.C_alloc ?_ _) | (with_reducible refine Kd.C_drewN ?_ _) | (with_reducible refine Kd.C_drew ?_))) | (repeat (first | exact (Kd.C_below HR465.out HB.out) | (with_reducible refine Kd.C_alloc ?_ _) | (with_reducible refine Kd.C_drewN ?_ _) | (with_reducible refine Kd.C_drew ?_)))); (case aB => exact (by repeat (first | (with_reducible first | exact HB.out | apply below_alloc | apply pw_below_drewN | apply below_drew1) | exact HB.out))); (case aF => exact (fun _ _ => trivial)); (case aO => exact (by (with_reducible repeat (first | apply Kd.R_alloc | apply Kd.R_drewN | apply Kd.R_drew)); exact HO464.out)); (case aS => exact (below_size (by repeat (first | (with_reducible first | exact HB.out | apply below_alloc | apply pw_below_drewN | apply below_drew1) | exact HB.out)))); (case aL => have := LMc22.out; have hlx_ := (show (l0.drop ((ji19) : Int).toNat).length = (l0.length - (ji19).toNat) from List.length_drop); omega); intro v467 w26 ho hb hg hat; rw [← Ny466.out] at ho; have n0_ := Aside0.mk (hb); have n1_ := Aside0.mk (ho); clear HB; clear HO464; have HB := n0_; have HO468 := n1_; clear n0_ n1_; clear ho hb hg hat))
              go_ret3
              exact ⟨_, by first | rfl | (simp [errW_none, errW_some] <;> rfl) | (simp only [← hji19]; first | rfl | (simp [errW_none, errW_some] <;> rfl)) | (simp [*, errW_none, errW_some] <;> rfl), by (with_reducible repeat (first | apply Kd.R_alloc | apply Kd.R_drewN | apply Kd.R_drew)); exact HO468.out, by repeat (first | (with_reducible first | exact HB.out | apply below_alloc | apply pw_below_drewN | apply below_drew1) | exact HB.out)⟩
             ·rw [if_neg c22] at H
              exact absurd H (by simp)
            ·rw [if_neg c21] at H
             exact absurd H (by simp)
           ·rw [if_neg c20] at H
            exact absurd H (by simp)
        ·rw [if_neg c7] at H
         have c7b0 : ((IntKind.u64.wrap (rd l0 x7_1)) == 0) = false := beq_eq_false_iff_ne.mpr c7
         have c7b1 : ((IntKind.u64.wrap (rd l0 x7_1)) != 0) = true := bne_iff_ne.mpr c7
         by_cases c27 : x7_1 = 9
         ·rw [if_pos c27] at H
          have c27b0 : (x7_1 == 9) = true := beq_iff_eq.mpr c27
          have c27b1 : (x7_1 != 9) = false := bne_eq_false_iff_eq.mpr c27
          clear c27
          by_cases c28 : (IntKind.u64.wrap (rd l0 x7_1)) > 1
          ·rw [if_pos c28] at H
           have c28b0 : decide (1 < (IntKind.u64.wrap (rd l0 x7_1))) = true := decide_eq_true c28
           clear c28
           simp only [Option.some.injEq, Prod.mk.injEq] at H
           obtain ⟨rfl, rfl, rfl⟩ := H
           have p454 : 0 ≤ (x7_1 : Int) := of_decide_eq_true (by first | (with_reducible assumption) | assumption)
           have q454 : x7_1 < (l0.length : Int) := of_decide_eq_true (by first | (with_reducible assumption) | assumption)
           obtain ⟨ad454, e454, hx454_0⟩ := Kd.at_int HR0.out x7_1 p454 q454
           cases e454
           try replace hx454_0 := (HB.out.cell (World.block_lt_of_cell? w _ hx454_0)).trans hx454_0
           replace p454 := eq_true p454
           replace q454 := eq_true q454
           go_wp2
           go_ret3
           exact ⟨_, by first | rfl | (simp [errW_none, errW_some] <;> rfl) | (simp [*, errW_none, errW_some] <;> rfl), by first | exact Kd.R_nil _ _ _ _ _ | exact Kd.N_nil _ _ _ _ _ | exact Kd.V_nil _ _ _ _ _ | exact Kd.Q_nil _ _ _ _ _ | exact Kd.S_nil _ _ _ _ _, by repeat (first | (with_reducible first | exact HB.out | apply below_alloc | apply pw_below_drewN | apply below_drew1) | exact HB.out)⟩
          ·rw [if_neg c28] at H
           have c28b0 : decide (1 < (IntKind.u64.wrap (rd l0 x7_1))) = false := decide_eq_false c28
           clear c28
           obtain ⟨y469, hy469⟩ : ∃ y_ : List Int, y_ = (([] : List Int)) := ⟨_, rfl⟩
           replace H : (if 0 ≤ (wrap64 (x7_1 + 1)) then (if (wrap64 (x7_1 + 1)) ≤ (l0.length : Int) then (if y469.length + (l0.drop ((wrap64 (x7_1 + 1)) : Int).toNat).length < 140737488355328 then (some (IntKind.u64.wrap (x5_1 + (IntKind.u64.wrap ((IntKind.u64.wrap (rd l0 x7_1)) * x6_1))), (y469 ++ (l0.drop ((wrap64 (x7_1 + 1)) : Int).toNat)), 0)) else (none)) else (none)) else (none)) = some (r1, r2, r3) := by first | (rw [hy469]; with_reducible exact H) | (have H2_ := (Option.bind_some _ _).symm.trans H; rw [hy469]; with_reducible exact H2_) | (have H2_ := (Option.bind_some _ _).symm.trans H; with_reducible exact H2_) | with_reducible exact H | (rw [hy469]; exact H) | exact H
           have Ny469 := Aside0.mk hy469
           clear hy469
           obtain ⟨ji29, hji29⟩ : ∃ j_ : Int, (wrap64 (x7_1 + 1)) = j_ := ⟨_, rfl⟩
           replace H : (if 0 ≤ (ji29) then (if (ji29) ≤ (l0.length : Int) then (if y469.length + (l0.drop ((ji29) : Int).toNat).length < 140737488355328 then (some (IntKind.u64.wrap (x5_1 + (IntKind.u64.wrap ((IntKind.u64.wrap (rd l0 x7_1)) * x6_1))), (y469 ++ (l0.drop ((ji29) : Int).toNat)), 0)) else (none)) else (none)) else (none)) = some (r1, r2, r3) := by first | (rw [hji29] at H; exact H) | (simp only [hji29] at H ⊢; exact H)
           have hji29w : (IntKind.i64.wrap (x7_1 + 1)) = ji29 := (i64_w _).trans hji29
           by_cases c30 : 0 ≤ (ji29)
           ·rw [if_pos c30] at H
            have c30b0 := eq_true c30
            have c30b1 : decide (0 ≤ (ji29)) = true := decide_eq_true c30
            clear c30
            by_cases c31 : (ji29) ≤ (l0.length : Int)
            ·rw [if_pos c31] at H
             have c31b0 := eq_true c31
             have c31b1 : decide ((ji29) ≤ (l0.length : Int)) = true := decide_eq_true c31
             clear c31
             by_cases c32 : y469.length + (l0.drop ((ji29) : Int).toNat).length < 140737488355328
             ·rw [if_pos c32] at H
              have LMc32 := Aside0.mk c32
              clear c32
              obtain ⟨y473, hy473⟩ : ∃ y_ : List Int, y_ = (y469 ++ (l0.drop ((ji29) : Int).toNat)) := ⟨_, rfl⟩
              replace H : (some (IntKind.u64.wrap (x5_1 + (IntKind.u64.wrap ((IntKind.u64.wrap (rd l0 x7_1)) * x6_1))), y473, 0)) = some (r1, r2, r3) := by first | (rw [hy473]; with_reducible exact H) | (have H2_ := (Option.bind_some _ _).symm.trans H; rw [hy473]; with_reducible exact H2_) | (have H2_ := (Option.bind_some _ _).symm.trans H; with_reducible exact H2_) | with_reducible exact H | (rw [hy473]; exact H) | exact H
              have Ny473 := Aside0.mk hy473
              clear hy473
              simp only [Option.some.injEq, Prod.mk.injEq] at H
              obtain ⟨rfl, rfl, rfl⟩ := H
              have p454 : 0 ≤ (x7_1 : Int) := of_decide_eq_true (by first | (with_reducible assumption) | assumption)
              have q454 : x7_1 < (l0.length : Int) := of_decide_eq_true (by first | (with_reducible assumption) | assumption)
              obtain ⟨ad454, e454, hx454_0⟩ := Kd.at_int HR0.out x7_1 p454 q454
              cases e454
              try replace hx454_0 := (HB.out.cell (World.block_lt_of_cell? w _ hx454_0)).trans hx454_0
              replace p454 := eq_true p454
              replace q454 := eq_true q454
              go_wp2_with (first | ((with_reducible refine gate_dst (N := 43) rfl ?_); refine Kd.R_lit (Kd.int .u8) _ 5 ?hg (N := 43) ?hd (xs := ([] : List Int)) (inner := []) (ok := fun _ => True) (okp := fun _ => True) ?hr ?hp (fun _ hk => hk) trivial (Below.refl _ _) (Nat.le_refl _) (by simp) ?_; (case hd => rfl); (case hg => rfl); (case hr => first | (go_simp; done) | (go_simp; rfl)); (case hp => exact (Reps.none _ _)); intro v470 w33 ho34 hb hg_ hnew_; clear hg_ hnew_; (first | rw [← Ny469.out] at ho34 | (simp only [Int.reduceToNat] at ho34; rw [← Ny469.out] at ho34)); have n0_ := Aside0.mk (Kd.R_lower ho34 (below_size (by repeat (first | (with_reducible first | exact HB.out | apply below_alloc | apply pw_below_drewN | apply below_drew1) | exact HB.out)))); have n1_ := Aside0.mk (below_step (by repeat (first | (with_reducible first | exact HB.out | apply below_alloc | apply pw_below_drewN | apply below_drew1) | exact HB.out)) hb); clear HB; have HO471 := n0_; have HB := n1_; clear n0_ n1_; clear hb ho34; obtain ⟨i035, hi035, _, hsz35, _⟩ := info_parts info5; obtain ⟨A35, hcut35, hA35, hC35⟩ := print_drop_of (P := Try.prog) (Value.int .u8) 0 26 5 .i64 Try.underlying26 hi035 hsz35 (some ad454) c0 l0 (ji29) (of_decide_eq_true (by first | (with_reducible assumption) | assumption)) (of_decide_eq_true (by first | (with_reducible assumption) | assumption)) HC0.out; have HR472 := Aside0.mk (Kd.C_of_reads (h1 := fun _ => rfl) (hA35 _ (Kd.reads_of_C HR0.out))); have HC472 := Aside0.mk hC35; clear hA35 hC35 hi035 hsz35) | ((with_reducible refine gate_builtin (b := .append) (xs := #[.tmp 43, .tmp 47]) rfl ?_); at_builtin; refine Kd.R_append_rows (Kd.int .u8) (w0 := w) w.heap.size rfl (.tmp 43) (.tmp 47) 26 5 (.int .u8 0) 1 rfl Try.underlying26 info5 rfl (by decide) (by omega) v470 y469 (l0.drop ((ji29) : Int).toNat) _ _ _ (fun _ => True) (fun _ => False) rfl rfl ?aO ?aR (fun _ _ h => h) (fun _ h => h.elim) ?aF ?aB ?aS ?aL ?_; (case aR => first | (rw [← show (l0.drop ((ji29) : Int).toNat).length = (l0.length - (ji29).toNat) from List.length_drop]; repeat (first | exact (Kd.C_below HR472.out HB.out) | (with_reducible refine Kd.C_alloc ?_ _) | (with_reducible refine Kd.C_drewN ?_ _) | (with_reducible refine Kd.C_drew ?_))) | (repeat (first | exact (Kd.C_below HR472.out HB.out) | (with_reducible refine Kd.C_alloc ?_ _) | (with_reducible refine Kd.C_drewN ?_ _) | (with_reducible refine Kd.C_drew ?_)))); (case aB => exact (by repeat (first | (with_reducible first | exact HB.out | apply below_alloc | apply pw_below_drewN | apply below_drew1) | exact HB.out))); (case aF => exact (fun _ _ => trivial)); (case aO => exact (by (with_reducible repeat (first | apply Kd.R_alloc | apply Kd.R_drewN | apply Kd.R_drew)); exact HO471.out)); (case aS => exact (below_size (by repeat (first | (with_reducible first | exact HB.out | apply below_alloc | apply pw_below_drewN | apply below_drew1) | exact HB.out)))); (case aL => have := LMc32.out; have hlx_ := (show (l0.drop ((ji29) : Int).toNat).length = (l0.length - (ji29).toNat) from List.length_drop); omega); intro v474 w36 ho hb hg hat; rw [← Ny473.out] at ho; have n0_ := Aside0.mk (hb); have n1_ := Aside0.mk (ho); clear HB; clear HO471; have HB := n0_; have HO475 := n1_; clear n0_ n1_; clear ho hb hg hat))
              go_ret3
              exact ⟨_, by first | rfl | (simp [errW_none, errW_some] <;> rfl) | (simp only [← hji29]; first | rfl | (simp [errW_none, errW_some] <;> rfl)) | (simp [*, errW_none, errW_some] <;> rfl), by (with_reducible repeat (first | apply Kd.R_alloc | apply Kd.R_drewN | apply Kd.R_drew)); exact HO475.out, by repeat (first | (with_reducible first | exact HB.out | apply below_alloc | apply pw_below_drewN | apply below_drew1) | exact HB.out)⟩
             ·rw [if_neg c32] at H
              exact absurd H (by simp)
            ·rw [if_neg c31] at H
             exact absurd H (by simp)
           ·rw [if_neg c30] at H
            exact absurd H (by simp)
         ·rw [if_neg c27] at H
          have c27b0 : (x7_1 == 9) = false := beq_eq_false_iff_ne.mpr c27
          have c27b1 : (x7_1 != 9) = true := bne_iff_ne.mpr c27
          obtain ⟨y476, hy476⟩ : ∃ y_ : List Int, y_ = (([] : List Int)) := ⟨_, rfl⟩
          replace H : (if 0 ≤ (wrap64 (x7_1 + 1)) then (if (wrap64 (x7_1 + 1)) ≤ (l0.length : Int) then (if y476.length + (l0.drop ((wrap64 (x7_1 + 1)) : Int).toNat).length < 140737488355328 then (some (IntKind.u64.wrap (x5_1 + (IntKind.u64.wrap ((IntKind.u64.wrap (rd l0 x7_1)) * x6_1))), (y476 ++ (l0.drop ((wrap64 (x7_1 + 1)) : Int).toNat)), 0)) else (none)) else (none)) else (none)) = some (r1, r2, r3) := by first | (rw [hy476]; with_reducible exact H) | (have H2_ := (Option.bind_some _ _).symm.trans H; rw [hy476]; with_reducible exact H2_) | (have H2_ := (Option.bind_some _ _).symm.trans H; with_reducible exact H2_) | with_reducible exact H | (rw [hy476]; exact H) | exact H
          have Ny476 := Aside0.mk hy476
          clear hy476
          obtain ⟨ji37, hji37⟩ : ∃ j_ : Int, (wrap64 (x7_1 + 1)) = j_ := ⟨_, rfl⟩
          replace H : (if 0 ≤ (ji37) then (if (ji37) ≤ (l0.length : Int) then (if y476.length + (l0.drop ((ji37) : Int).toNat).length < 140737488355328 then (some (IntKind.u64.wrap (x5_1 + (IntKind.u64.wrap ((IntKind.u64.wrap (rd l0 x7_1)) * x6_1))), (y476 ++ (l0.drop ((ji37) : Int).toNat)), 0)) else (none)) else (none)) else (none)) = some (r1, r2, r3) := by first | (rw [hji37] at H; exact H) | (simp only [hji37] at H ⊢; exact H)
          have hji37w : (IntKind.i64.wrap (x7_1 + 1)) = ji37 := (i64_w _).trans hji37
          by_cases c38 : 0 ≤ (ji37)
          ·rw [if_pos c38] at H
           have c38b0 := eq_true c38
           have c38b1 : decide (0 ≤ (ji37)) = true := decide_eq_true c38
           clear c38
           by_cases c39 : (ji37) ≤ (l0.length : Int)
           ·rw [if_pos c39] at H
            have c39b0 := eq_true c39
            have c39b1 : decide ((ji37) ≤ (l0.length : Int)) = true := decide_eq_true c39
            clear c39
            by_cases c40 : y476.length + (l0.drop ((ji37) : Int).toNat).length < 140737488355328
            ·rw [if_pos c40] at H
             have LMc40 := Aside0.mk c40
             clear c40
             obtain ⟨y480, hy480⟩ : ∃ y_ : List Int, y_ = (y476 ++ (l0.drop ((ji37) : Int).toNat)) := ⟨_, rfl⟩
             replace H : (some (IntKind.u64.wrap (x5_1 + (IntKind.u64.wrap ((IntKind.u64.wrap (rd l0 x7_1)) * x6_1))), y480, 0)) = some (r1, r2, r3) := by first | (rw [hy480]; with_reducible exact H) | (have H2_ := (Option.bind_some _ _).symm.trans H; rw [hy480]; with_reducible exact H2_) | (have H2_ := (Option.bind_some _ _).symm.trans H; with_reducible exact H2_) | with_reducible exact H | (rw [hy480]; exact H) | exact H
             have Ny480 := Aside0.mk hy480
             clear hy480
             simp only [Option.some.injEq, Prod.mk.injEq] at H
             obtain ⟨rfl, rfl, rfl⟩ := H
             have p454 : 0 ≤ (x7_1 : Int) := of_decide_eq_true (by first | (with_reducible assumption) | assumption)
             have q454 : x7_1 < (l0.length : Int) := of_decide_eq_true (by first | (with_reducible assumption) | assumption)
             obtain ⟨ad454, e454, hx454_0⟩ := Kd.at_int HR0.out x7_1 p454 q454
             cases e454
             try replace hx454_0 := (HB.out.cell (World.block_lt_of_cell? w _ hx454_0)).trans hx454_0
             replace p454 := eq_true p454
             replace q454 := eq_true q454
             go_wp2_with (first | ((with_reducible refine gate_dst (N := 43) rfl ?_); refine Kd.R_lit (Kd.int .u8) _ 5 ?hg (N := 43) ?hd (xs := ([] : List Int)) (inner := []) (ok := fun _ => True) (okp := fun _ => True) ?hr ?hp (fun _ hk => hk) trivial (Below.refl _ _) (Nat.le_refl _) (by simp) ?_; (case hd => rfl); (case hg => rfl); (case hr => first | (go_simp; done) | (go_simp; rfl)); (case hp => exact (Reps.none _ _)); intro v477 w41 ho42 hb hg_ hnew_; clear hg_ hnew_; (first | rw [← Ny476.out] at ho42 | (simp only [Int.reduceToNat] at ho42; rw [← Ny476.out] at ho42)); have n0_ := Aside0.mk (Kd.R_lower ho42 (below_size (by repeat (first | (with_reducible first | exact HB.out | apply below_alloc | apply pw_below_drewN | apply below_drew1) | exact HB.out)))); have n1_ := Aside0.mk (below_step (by repeat (first | (with_reducible first | exact HB.out | apply below_alloc | apply pw_below_drewN | apply below_drew1) | exact HB.out)) hb); clear HB; have HO478 := n0_; have HB := n1_; clear n0_ n1_; clear hb ho42; obtain ⟨i043, hi043, _, hsz43, _⟩ := info_parts info5; obtain ⟨A43, hcut43, hA43, hC43⟩ := print_drop_of (P := Try.prog) (Value.int .u8) 0 26 5 .i64 Try.underlying26 hi043 hsz43 (some ad454) c0 l0 (ji37) (of_decide_eq_true (by first | (with_reducible assumption) | assumption)) (of_decide_eq_true (by first | (with_reducible assumption) | assumption)) HC0.out; have HR479 := Aside0.mk (Kd.C_of_reads (h1 := fun _ => rfl) (hA43 _ (Kd.reads_of_C HR0.out))); have HC479 := Aside0.mk hC43; clear hA43 hC43 hi043 hsz43) | ((with_reducible refine gate_builtin (b := .append) (xs := #[.tmp 43, .tmp 47]) rfl ?_); at_builtin; refine Kd.R_append_rows (Kd.int .u8) (w0 := w) w.heap.size rfl (.tmp 43) (.tmp 47) 26 5 (.int .u8 0) 1 rfl Try.underlying26 info5 rfl (by decide) (by omega) v477 y476 (l0.drop ((ji37) : Int).toNat) _ _ _ (fun _ => True) (fun _ => False) rfl rfl ?aO ?aR (fun _ _ h => h) (fun _ h => h.elim) ?aF ?aB ?aS ?aL ?_; (case aR => first | (rw [← show (l0.drop ((ji37) : Int).toNat).length = (l0.length - (ji37).toNat) from List.length_drop]; repeat (first | exact (Kd.C_below HR479.out HB.out) | (with_reducible refine Kd.C_alloc ?_ _) | (with_reducible refine Kd.C_drewN ?_ _) | (with_reducible refine Kd.C_drew ?_))) | (repeat (first | exact (Kd.C_below HR479.out HB.out) | (with_reducible refine Kd.C_alloc ?_ _) | (with_reducible refine Kd.C_drewN ?_ _) | (with_reducible refine Kd.C_drew ?_)))); (case aB => exact (by repeat (first | (with_reducible first | exact HB.out | apply below_alloc | apply pw_below_drewN | apply below_drew1) | exact HB.out))); (case aF => exact (fun _ _ => trivial)); (case aO => exact (by (with_reducible repeat (first | apply Kd.R_alloc | apply Kd.R_drewN | apply Kd.R_drew)); exact HO478.out)); (case aS => exact (below_size (by repeat (first | (with_reducible first | exact HB.out | apply below_alloc | apply pw_below_drewN | apply below_drew1) | exact HB.out)))); (case aL => have := LMc40.out; have hlx_ := (show (l0.drop ((ji37) : Int).toNat).length = (l0.length - (ji37).toNat) from List.length_drop); omega); intro v481 w44 ho hb hg hat; rw [← Ny480.out] at ho; have n0_ := Aside0.mk (hb); have n1_ := Aside0.mk (ho); clear HB; clear HO478; have HB := n0_; have HO482 := n1_; clear n0_ n1_; clear ho hb hg hat))
             go_ret3
             exact ⟨_, by first | rfl | (simp [errW_none, errW_some] <;> rfl) | (simp only [← hji37]; first | rfl | (simp [errW_none, errW_some] <;> rfl)) | (simp [*, errW_none, errW_some] <;> rfl), by (with_reducible repeat (first | apply Kd.R_alloc | apply Kd.R_drewN | apply Kd.R_drew)); exact HO482.out, by repeat (first | (with_reducible first | exact HB.out | apply below_alloc | apply pw_below_drewN | apply below_drew1) | exact HB.out)⟩
            ·rw [if_neg c40] at H
             exact absurd H (by simp)
           ·rw [if_neg c39] at H
            exact absurd H (by simp)
          ·rw [if_neg c38] at H
           exact absurd H (by simp)
       ·rw [if_neg c6] at H
        have c6b0 : decide ((IntKind.u64.wrap (rd l0 x7_1)) < 128) = false := decide_eq_false c6
        clear c6
        have H' := Aside0.mk H
        clear H
        have p454 : 0 ≤ (x7_1 : Int) := of_decide_eq_true (by first | (with_reducible assumption) | assumption)
        have q454 : x7_1 < (l0.length : Int) := of_decide_eq_true (by first | (with_reducible assumption) | assumption)
        obtain ⟨ad454, e454, hx454_0⟩ := Kd.at_int HR0.out x7_1 p454 q454
        cases e454
        try replace hx454_0 := (HB.out.cell (World.block_lt_of_cell? w _ hx454_0)).trans hx454_0
        replace p454 := eq_true p454
        replace q454 := eq_true q454
        go_wp2
        go_roundg k1
        case measure => have := HK1.out; omega
        case rel => exact ⟨(IntKind.u64.wrap (x5_1 + (IntKind.u64.wrap ((IntKind.u64.wrap ((IntKind.u64.wrap (rd l0 x7_1)) - 128)) * x6_1)))), (IntKind.u64.wrap (x6_1 * 128)), (wrap64 (x7_1 + 1)), (by first | rfl | (simp; done) | (simp [*]; done)), (by first | rfl | (simp; done) | (simp [*]; done)), (by first | rfl | (simp; done) | (simp [*]; done)), H', ⟨by have := HK1.out; omega⟩, ⟨by repeat (first | (with_reducible first | exact HB.out | apply below_alloc | apply pw_below_drewN | apply below_drew1) | exact HB.out)⟩⟩
      ·rw [if_neg c5] at H
       exact absurd H (by simp)
     ·rw [if_neg c4] at H
      exact absurd H (by simp)
   ·rw [if_neg c2] at H
    have c2b0 : decide (x7_1 < 10) = false := decide_eq_false c2
    clear c2
    simp only [Option.some.injEq, Prod.mk.injEq] at H
    obtain ⟨rfl, rfl, rfl⟩ := H
    go_wp2
    go_ret3
    exact ⟨_, by first | rfl | (simp [errW_none, errW_some] <;> rfl) | (simp [*, errW_none, errW_some] <;> rfl), by first | exact Kd.R_nil _ _ _ _ _ | exact Kd.N_nil _ _ _ _ _ | exact Kd.V_nil _ _ _ _ _ | exact Kd.Q_nil _ _ _ _ _ | exact Kd.S_nil _ _ _ _ _, by repeat (first | (with_reducible first | exact HB.out | apply below_alloc | apply pw_below_drewN | apply below_drew1) | exact HB.out)⟩

/-! ### creelref15_Take: function 34 -/
/-- The words that bytes tell, so many of them; none: one is none. -/
def creelref15_Take.l (k : Nat) : Nat → List Int → List Int → List (List Int) → Option (Option (List (List Int)))
 | 0, _, _, acc => some (some acc)
 | m + 1, rest, ahead, acc => (creelref01_Take.f k rest).bind fun t => (creelref01_Take.f k t.2.1).bind fun u =>
  if 0 ≤ t.1 ∧ t.1 < 18446744073709551616 ∧ 0 ≤ u.1 ∧ u.1 < 18446744073709551616 ∧ ahead.length ≤ 1000000 ∧ u.2.1.length ≤ 1000000 then
   (if t.2.2 = 0 ∧ u.2.2 = 0 ∧ t.1 ≤ ahead.length ∧ u.1 ≤ u.2.1.length then creelref15_Take.l k m (u.2.1.drop u.1.toNat) (ahead.take t.1.toNat ++ u.2.1.take u.1.toNat) (acc ++ [ahead.take t.1.toNat ++ u.2.1.take u.1.toNat]) else some none)
  else none
def creelref15_Take.f (k : Nat) (b : List Int) : Option (List (List Int) × Int) := (creelref01_Take.f k b).bind fun t =>
 if 0 ≤ t.1 then
  (if t.2.2 = 0 ∧ t.1 ≤ 16 then (creelref15_Take.l k t.1.toNat t.2.1 [] []).bind fun o => match o with
   | none => some ([], 6)
   | some l => (creelref15_Put.f k l).bind fun p => if p.2 = 0 ∧ (strOfNums p.1).toList = (strOfNums b).toList then some (l, 0) else some ([], 6)
  else some ([], 6))
 else none
set_option maxHeartbeats 8000000 in
set_option maxRecDepth 100000 in
theorem creelref15_Take.calls (k : Nat) (A0 : Option Addr) (c0 : Nat) (l0 : List Int) (r1 : List (List Int)) (r2 : Int) (w : World) (hr0 : Kd.C (Kd.int .u8) w A0 l0.length l0) (hc0 : l0.length ≤ c0) (h : creelref15_Take.f k l0 = some (r1, r2)) :
  Calls Try.prog 34 #[.slice A0 l0.length c0] w fun e w' => ∃ v0_ : Value, e = .returned (.tuple #[v0_, .int .i64 r2]) ∧ Kd.N (Kd.slice 5 (Kd.int .u8)) 26 w' w.heap.size (fun k_ => (w.heap.size ≤ k_)) v0_ r1 ∧ Below w.heap.size w w' := by
 have HR0 := Aside0.mk hr0
 have HC0 := Aside0.mk hc0
 clear hr0 hc0
 unfold creelref15_Take.f at h
 obtain ⟨⟨n0, x0, e0⟩, ht, h⟩ := Option.bind_eq_some_iff.mp h
 have HT := Aside0.mk ht
 clear ht
 simp only at h
 by_cases hn : 0 ≤ n0
 ·rw [if_pos hn] at h
  by_cases hok : e0 = 0 ∧ n0 ≤ 16
  ·rw [if_pos hok] at h
   obtain ⟨rfl, hn16⟩ := hok
   obtain ⟨M, rfl⟩ := Int.eq_ofNat_of_zero_le hn
   obtain ⟨o, ho, he⟩ := Option.bind_eq_some_iff.mp h
   simp only [Int.toNat_natCast] at ho
   have HL := Aside0.mk ho
   have HE := Aside0.mk he
   clear ho he h
   go_enter Try.func34, Try.ntmps34
   go_wp2_with (first | (go_at_call 54; (with_reducible refine (creelref01_Take.calls k _ _ l0 _ _ _ _ HR0.out HC0.out HT.out).mono ?_); rintro e w1 ⟨v1, rfl, ho, hb⟩; obtain ⟨Ax, cx, rfl⟩ := Kd.R_slice ho; have HX := Aside0.mk (Kd.R_mono (Kd.R_bound ho) (fun k_ hk => hk.2.1)); have HB := Aside0.mk hb; clear ho hb))
   go_loopw [5, 7, 8, 9] (fun v5 v7 v8 v9 wr => ∃ (i : Nat) (rest ahead : List Int) (acc : List (List Int)), i ≤ M ∧ acc.length ≤ i ∧ v9 = .int .i64 i ∧ Aside0 (creelref15_Take.l k (M - i) rest ahead acc = some o) ∧ Aside0 (Kd.V (Kd.int .u8) 5 wr w.heap.size (fun k_ => w.heap.size ≤ k_ ∧ some k_ ≠ v7.ownBlock) v5 rest) ∧ Aside0 (Kd.N (Kd.slice 5 (Kd.int .u8)) 26 wr w.heap.size (fun k_ => w.heap.size ≤ k_) v7 acc) ∧ Aside0 (Kd.V (Kd.int .u8) 5 wr w.heap.size (fun k_ => w.heap.size ≤ k_ ∧ some k_ ≠ v7.ownBlock) v8 ahead) ∧ Aside0 (Below w.heap.size w wr)) (fun _ _ _ v9 _ => M - (intOf v9).toNat)
   case atStart => exact ⟨0, x0, [], [], Nat.zero_le _, Nat.le_refl _, rfl, HL, ⟨Kd.V_mono (Kd.R_V HX.out) (fun k_ hk => ⟨hk, by simp [Value.ownBlock]⟩)⟩, ⟨Kd.N_nil _ _ _ _ _⟩, ⟨Kd.V_nil _ _ _ _ _⟩, HB⟩
   case round =>
    clear HL HX HB
    obtain ⟨i, rest, ahead, acc, hi, hal, rfl, HL, HX, HN, HV, HB⟩ := hrel
    obtain ⟨A5, c5, rfl⟩ := Kd.V_slice HX.out
    obtain ⟨A8, c8, rfl⟩ := Kd.V_slice HV.out
    by_cases hlt : i < M
    ·have hl := HL.out
     clear HL
     rw [show M - i = (M - (i + 1)) + 1 by omega] at hl
     unfold creelref15_Take.l at hl
     obtain ⟨⟨n1, x, e1⟩, ht, hl'⟩ := Option.bind_eq_some_iff.mp hl
     clear hl
     obtain ⟨⟨n2, y, e2⟩, hu, hl⟩ := Option.bind_eq_some_iff.mp hl'
     clear hl'
     simp only at hl hu
     have HT1 := Aside0.mk ht
     have HT2 := Aside0.mk hu
     clear ht hu
     by_cases hb : 0 ≤ n1 ∧ n1 < 18446744073709551616 ∧ 0 ≤ n2 ∧ n2 < 18446744073709551616 ∧ ahead.length ≤ 1000000 ∧ y.length ≤ 1000000
     ·rw [if_pos hb] at hl
      obtain ⟨h1, h2, h3, h4, h5, h6⟩ := hb
      obtain ⟨m1, rfl⟩ := Int.eq_ofNat_of_zero_le h1
      obtain ⟨m2, rfl⟩ := Int.eq_ofNat_of_zero_le h3
      by_cases hok : e1 = 0 ∧ e2 = 0 ∧ (m1 : Int) ≤ ahead.length ∧ (m2 : Int) ≤ y.length
      ·rw [if_pos hok] at hl
       obtain ⟨rfl, rfl, c3, c4⟩ := hok
       simp only [Int.toNat_natCast] at hl
       have d3 : decide (ahead.length < m1) = false := decide_eq_false (by omega)
       have d4 : decide (y.length < m2) = false := decide_eq_false (by omega)
       go_upto_region 13 with (first | (go_at_call 54; (with_reducible refine (creelref01_Take.calls k _ _ rest _ _ _ _ (Kd.V_reads' HX.out).2.2 (Kd.V_reads' HX.out).2.1 HT1.out).mono ?_); rintro e w1 ⟨v1, rfl, ho, hb⟩; obtain ⟨Ax, cx, rfl⟩ := Kd.R_slice ho; have HX1 := Aside0.mk (Kd.V_mono (Kd.R_V (base' := w.heap.size) ho) (fun _ _ => trivial)); have HXb := Aside0.mk (Kd.R_bound ho); have HN1 := Aside0.mk (Kd.N_below HN.out hb); have HV1 := Aside0.mk (Kd.V_below HV.out hb); have HB1 := Aside0.mk (below_step HB.out hb); have HS1 := Aside0.mk hb.size; have HZ0 := Aside0.mk (Nat.le_trans HB.out.size hb.size); clear ho hb HB HN HV HX) | (go_at_call 54; (with_reducible refine (creelref01_Take.calls k _ _ x _ _ _ _ (Kd.R_reads' HXb.out).2.2 (Kd.R_reads' HXb.out).2.1 HT2.out).mono ?_); rintro e w2 ⟨v2, rfl, ho, hb⟩; obtain ⟨Ay, cy, rfl⟩ := Kd.R_slice ho; have HY := Aside0.mk (Kd.R_mono (Kd.R_bound ho) (fun k_ hk => hk.2.1)); have HN := Aside0.mk (Kd.N_below HN1.out hb); have HV := Aside0.mk (Kd.V_below HV1.out hb); have HB := Aside0.mk (below_step HB1.out hb); have HS2 := Aside0.mk hb.size; have HL7 := Aside0.mk (Kd.N_lt HN1.out); clear ho hb HB1 HN1 HV1 HX1 HXb))
       have hl1 : (ahead.take m1).length ≤ 1000000 := by rw [List.length_take]; omega
       have hl2 : (y.take m2).length ≤ 1000000 := by rw [List.length_take]; omega
       obtain ⟨n3, hn3, hnc3, hcut3, hFt⟩ := Hand.cut_take (P := Try.prog) 26 .u64 Try.underlying26 (by kernel_rfl) (Kd.V_F HV.out) (Kd.V_reads' HV.out).2.1 m1 (by omega)
       obtain ⟨n4, hn4, hnc4, hcut4, hFy⟩ := Hand.cut_take (P := Try.prog) 26 .u64 Try.underlying26 (by kernel_rfl) (Kd.R_F HY.out) (Kd.R_reads' HY.out).2.1 m2 (by omega)
       obtain ⟨A6, n6, c6, hn6, hnc6, hcut6, hFr⟩ := Hand.cut_drop (P := Try.prog) 26 .u64 Try.underlying26 (by kernel_rfl) (Kd.R_F HY.out) (Kd.R_reads' HY.out).2.1 m2 (by omega)
       generalize ahead.take m1 = p1 at *
       generalize y.take m2 = p2 at *
       generalize y.drop m2 = p3 at *
       subst hn3
       subst hn4
       subst hn6
       obtain ⟨wd, hwd⟩ : ∃ wd_, p1 ++ p2 = wd_ := ⟨_, rfl⟩
       rw [hwd] at hl
       have HWD := Aside0.mk hwd
       have HL := Aside0.mk hl
       have HFt := Aside0.mk hFt
       have HFy := Aside0.mk hFy
       have HFr := Aside0.mk hFr
       clear hwd hl hFt hFy hFr
       go_region_held3 (fun _ => True) (trivial) (first | (refine Hand.R_row_step .u8 (w0 := w2) w2.heap.size (by rfl) (.tmp 69) (.tmp 72) 26 5 (.int .u8 0) 1 (by rfl) Try.underlying26 info5 rfl (by decide) (.slice (some ⟨_, 0, none⟩) 0 0) [] p1 _ p1.length _ (fun k_ => w2.heap.size ≤ k_) (by rfl) (by rfl) (Hand.R_lit0 _ _ _ (by simp) (Nat.le_refl _) (Nat.le_refl _)) (by repeat (first | exact Kd.F_now HFt.out | apply Kd.C_drew | refine Kd.C_alloc ?_ _)) (fun k_ hk => by (try simp at hk); omega) (by repeat (first | exact Below.refl _ _ | apply below_drew1 | refine Below.alloc ?_ (by simp) _)) (by simp) (by simp; omega) ?_; intro v3 w3 ho hb hg hat; rw [List.nil_append] at ho; have HO3 := Aside0.mk ho; have HB3 := Aside0.mk hb; clear ho hb hg hat) | (refine Hand.R_row_step .u8 (w0 := w2) w2.heap.size (by rfl) (.tmp 73) (.tmp 76) 26 5 (.int .u8 0) 1 (by rfl) Try.underlying26 info5 rfl (by decide) v3 p1 p2 _ p2.length _ (fun k_ => w2.heap.size ≤ k_) (by rfl) (by rfl) HO3.out (Kd.F_now (Kd.F_below HFy.out HB3.out)) (fun k_ hk => Nat.le_trans HB3.out.size hk) HB3.out HB3.out.size (by omega) ?_; intro v4 w4 ho hb hg hat; rw [HWD.out] at ho; obtain ⟨Aw, cw, rfl⟩ := Kd.R_slice ho; have HO4 := Aside0.mk ho; have HB4 := Aside0.mk hb; clear ho hb hg hat HO3 HB3))
       have hbn : Below w.heap.size w w4 := below_step HB.out HB4.out
       have HN4 := Aside0.mk (Kd.N_below HN.out HB4.out)
       have HFr4 := Aside0.mk (Kd.F_bound (Kd.F_below HFr.out HB4.out))
       have HBN := Aside0.mk hbn
       have hz1 := HB.out.size
       have hz2 := HB4.out.size
       have hz3 := HS1.out
       have hz4 := HS2.out
       have HZ : Aside0 (w.heap.size ≤ w2.heap.size ∧ w2.heap.size ≤ w4.heap.size ∧ w.heap.size ≤ w1.heap.size ∧ w1.heap.size ≤ w2.heap.size) := ⟨⟨hz1, hz2, HZ0.out, hz4⟩⟩
       clear hbn hz1 hz2 hz3 hz4
       obtain ⟨Hw0, Hw1, Hw2, Hw3⟩ := HZ.out
       have HZ1 := Aside0.mk Hw0
       have HZ2 := Aside0.mk Hw1
       have HZ4 := Aside0.mk Hw3
       clear Hw0 Hw1 Hw2 Hw3
       have hlen : (acc.length + 1) * 24 ≤ 140737488355328 := by omega
       have HLEN := Aside0.mk hlen
       clear hlen
       have HWB := Aside0.mk (fun k_ (hk : some k_ = (Value.slice Aw wd.length cw).ownBlock) => Kd.R_base HO4.out k_ hk.symm)
       have HNL := Aside0.mk (Kd.N_lt HN.out)
       go_wp2_with (first | ((with_reducible refine gate_dst (N := 81) rfl ?_); refine Kd.N_append (Kd.slice 5 (Kd.int .u8)) (w0 := w) w.heap.size rfl (.tmp 78) (.tmp 80) 22 26 (.slice none 0 0) 24 rfl Try.underlying22 info26 rfl (by decide) (by decide) u7 acc wd [.slice Aw wd.length cw] (fun k_ => w.heap.size ≤ k_) (fun k_ => some k_ = (Value.slice Aw wd.length cw).ownBlock) rfl rfl (Kd.FK_slice_mk (Kd.R_reads' HO4.out).2.1 (Kd.R_F (Hand.R_own HO4.out))) (fun k_ hk => ⟨Nat.le_trans HZ1.out (HWB.out k_ hk), fun e_ => by have h1 := HWB.out k_ hk; have h2 := HNL.out k_ e_.symm; omega⟩) (fun k_ hk => Nat.le_trans HBN.out.size hk) HN4.out HBN.out HBN.out.size HLEN.out ?_; intro v8 w8 ho hb hg hat; have HO8 := Aside0.mk ho; have HB8 := Aside0.mk hb; have HG8 := Aside0.mk hg; have HA8 := Aside0.mk hat; clear ho hb hg hat))
       have hne : ∀ k_, w2.heap.size ≤ k_ → some k_ ≠ u7.ownBlock := fun k_ hk e_ => by have := HNL.out k_ e_.symm; omega
       have hne1 : ∀ k_, w1.heap.size ≤ k_ → some k_ ≠ u7.ownBlock := fun k_ hk e_ => by have := HL7.out k_ e_.symm; omega
       have hne8 : ∀ k_, k_ < w4.heap.size → some k_ ≠ u7.ownBlock → some k_ ≠ v8.ownBlock := fun k_ hk hn e_ => by
        rcases HA8.out with h_ | ⟨b_, h_, hb_⟩
        ·exact hn (e_.trans h_)
        ·have h2 := e_.trans h_
         injection h2 with h2
         omega
       have hz1 := HZ1.out
       have hz2 := HZ2.out
       have hz4 := HZ4.out
       have hz0 := HZ0.out
       go_roundw
       case rel => exact ⟨i + 1, p3, wd, acc ++ [wd], by omega, by simp; omega, by go_num, HL, ⟨Kd.V_mk hnc6 (Kd.F_mono (Kd.F_grown HFr4.out HG8.out (fun k_ hk => hne1 k_ hk.1)) (fun k_ hk => ⟨by have := hk.1; omega, hne8 k_ hk.2 (hne1 k_ hk.1)⟩))⟩, HO8, ⟨Kd.V_mk (Kd.R_reads' HO4.out).2.1 (Kd.F_mono (Kd.F_grown (Kd.F_bound (Kd.R_F (Hand.R_own HO4.out))) HG8.out (fun k_ hk => hne k_ (HWB.out k_ hk.1))) (fun k_ hk => ⟨Nat.le_trans hz1 (HWB.out k_ hk.1), hne8 k_ hk.2 (hne k_ (HWB.out k_ hk.1))⟩))⟩, HB8⟩
       case measure => simp [intOf]; omega
      ·rw [if_neg hok] at hl
       obtain rfl := Option.some.inj hl
       have he : some (([] : List (List Int)), (6 : Int)) = some (r1, r2) := HE.out
       clear HE hl
       simp only [Option.some.injEq, Prod.mk.injEq] at he
       obtain ⟨rfl, rfl⟩ := he
       by_cases c1 : e1 = 0
       ·subst c1
        by_cases c2 : e2 = 0
        ·subst c2
         by_cases c3 : m1 ≤ ahead.length
         ·have c4 : ¬ m2 ≤ y.length := fun c4 => hok ⟨rfl, rfl, by omega, by omega⟩
          have d3 : decide (ahead.length < m1) = false := decide_eq_false (by omega)
          have d4 : decide (y.length < m2) = true := decide_eq_true (by omega)
          go_wp2_with (first | (go_at_call 54; (with_reducible refine (creelref01_Take.calls k _ _ rest _ _ _ _ (Kd.V_reads' HX.out).2.2 (Kd.V_reads' HX.out).2.1 HT1.out).mono ?_); rintro e w1 ⟨v1, rfl, ho, hb⟩; obtain ⟨Ax, cx, rfl⟩ := Kd.R_slice ho; have HX1 := Aside0.mk (Kd.V_mono (Kd.R_V (base' := w.heap.size) ho) (fun _ _ => trivial)); have HXb := Aside0.mk (Kd.R_bound ho); have HN1 := Aside0.mk (Kd.N_below HN.out hb); have HV1 := Aside0.mk (Kd.V_below HV.out hb); have HB1 := Aside0.mk (below_step HB.out hb); have HS1 := Aside0.mk hb.size; have HZ0 := Aside0.mk (Nat.le_trans HB.out.size hb.size); clear ho hb HB HN HV HX) | (go_at_call 54; (with_reducible refine (creelref01_Take.calls k _ _ x _ _ _ _ (Kd.R_reads' HXb.out).2.2 (Kd.R_reads' HXb.out).2.1 HT2.out).mono ?_); rintro e w2 ⟨v2, rfl, ho, hb⟩; obtain ⟨Ay, cy, rfl⟩ := Kd.R_slice ho; have HY := Aside0.mk (Kd.R_mono (Kd.R_bound ho) (fun k_ hk => hk.2.1)); have HN := Aside0.mk (Kd.N_below HN1.out hb); have HV := Aside0.mk (Kd.V_below HV1.out hb); have HB := Aside0.mk (below_step HB1.out hb); have HS2 := Aside0.mk hb.size; have HL7 := Aside0.mk (Kd.N_lt HN1.out); clear ho hb HB1 HN1 HV1 HX1 HXb))
          go_ret2
          exact ⟨_, rfl, Kd.N_nil _ _ _ _ _, HB.out⟩
         ·have d3 : decide (ahead.length < m1) = true := decide_eq_true (by omega)
          go_wp2_with (first | (go_at_call 54; (with_reducible refine (creelref01_Take.calls k _ _ rest _ _ _ _ (Kd.V_reads' HX.out).2.2 (Kd.V_reads' HX.out).2.1 HT1.out).mono ?_); rintro e w1 ⟨v1, rfl, ho, hb⟩; obtain ⟨Ax, cx, rfl⟩ := Kd.R_slice ho; have HX1 := Aside0.mk (Kd.V_mono (Kd.R_V (base' := w.heap.size) ho) (fun _ _ => trivial)); have HXb := Aside0.mk (Kd.R_bound ho); have HN1 := Aside0.mk (Kd.N_below HN.out hb); have HV1 := Aside0.mk (Kd.V_below HV.out hb); have HB1 := Aside0.mk (below_step HB.out hb); have HS1 := Aside0.mk hb.size; have HZ0 := Aside0.mk (Nat.le_trans HB.out.size hb.size); clear ho hb HB HN HV HX) | (go_at_call 54; (with_reducible refine (creelref01_Take.calls k _ _ x _ _ _ _ (Kd.R_reads' HXb.out).2.2 (Kd.R_reads' HXb.out).2.1 HT2.out).mono ?_); rintro e w2 ⟨v2, rfl, ho, hb⟩; obtain ⟨Ay, cy, rfl⟩ := Kd.R_slice ho; have HY := Aside0.mk (Kd.R_mono (Kd.R_bound ho) (fun k_ hk => hk.2.1)); have HN := Aside0.mk (Kd.N_below HN1.out hb); have HV := Aside0.mk (Kd.V_below HV1.out hb); have HB := Aside0.mk (below_step HB1.out hb); have HS2 := Aside0.mk hb.size; have HL7 := Aside0.mk (Kd.N_lt HN1.out); clear ho hb HB1 HN1 HV1 HX1 HXb))
          go_ret2
          exact ⟨_, rfl, Kd.N_nil _ _ _ _ _, HB.out⟩
        ·have d2 : (e2 != 0) = true := bne_iff_ne.mpr c2
         go_wp2_with (first | (go_at_call 54; (with_reducible refine (creelref01_Take.calls k _ _ rest _ _ _ _ (Kd.V_reads' HX.out).2.2 (Kd.V_reads' HX.out).2.1 HT1.out).mono ?_); rintro e w1 ⟨v1, rfl, ho, hb⟩; obtain ⟨Ax, cx, rfl⟩ := Kd.R_slice ho; have HX1 := Aside0.mk (Kd.V_mono (Kd.R_V (base' := w.heap.size) ho) (fun _ _ => trivial)); have HXb := Aside0.mk (Kd.R_bound ho); have HN1 := Aside0.mk (Kd.N_below HN.out hb); have HV1 := Aside0.mk (Kd.V_below HV.out hb); have HB1 := Aside0.mk (below_step HB.out hb); have HS1 := Aside0.mk hb.size; have HZ0 := Aside0.mk (Nat.le_trans HB.out.size hb.size); clear ho hb HB HN HV HX) | (go_at_call 54; (with_reducible refine (creelref01_Take.calls k _ _ x _ _ _ _ (Kd.R_reads' HXb.out).2.2 (Kd.R_reads' HXb.out).2.1 HT2.out).mono ?_); rintro e w2 ⟨v2, rfl, ho, hb⟩; obtain ⟨Ay, cy, rfl⟩ := Kd.R_slice ho; have HY := Aside0.mk (Kd.R_mono (Kd.R_bound ho) (fun k_ hk => hk.2.1)); have HN := Aside0.mk (Kd.N_below HN1.out hb); have HV := Aside0.mk (Kd.V_below HV1.out hb); have HB := Aside0.mk (below_step HB1.out hb); have HS2 := Aside0.mk hb.size; have HL7 := Aside0.mk (Kd.N_lt HN1.out); clear ho hb HB1 HN1 HV1 HX1 HXb))
         go_ret2
         exact ⟨_, rfl, Kd.N_nil _ _ _ _ _, HB.out⟩
       ·have d1 : (e1 != 0) = true := bne_iff_ne.mpr c1
        go_wp2_with (first | (go_at_call 54; (with_reducible refine (creelref01_Take.calls k _ _ rest _ _ _ _ (Kd.V_reads' HX.out).2.2 (Kd.V_reads' HX.out).2.1 HT1.out).mono ?_); rintro e w1 ⟨v1, rfl, ho, hb⟩; obtain ⟨Ax, cx, rfl⟩ := Kd.R_slice ho; have HX1 := Aside0.mk (Kd.V_mono (Kd.R_V (base' := w.heap.size) ho) (fun _ _ => trivial)); have HXb := Aside0.mk (Kd.R_bound ho); have HN1 := Aside0.mk (Kd.N_below HN.out hb); have HV1 := Aside0.mk (Kd.V_below HV.out hb); have HB1 := Aside0.mk (below_step HB.out hb); have HS1 := Aside0.mk hb.size; have HZ0 := Aside0.mk (Nat.le_trans HB.out.size hb.size); clear ho hb HB HN HV HX) | (go_at_call 54; (with_reducible refine (creelref01_Take.calls k _ _ x _ _ _ _ (Kd.R_reads' HXb.out).2.2 (Kd.R_reads' HXb.out).2.1 HT2.out).mono ?_); rintro e w2 ⟨v2, rfl, ho, hb⟩; obtain ⟨Ay, cy, rfl⟩ := Kd.R_slice ho; have HY := Aside0.mk (Kd.R_mono (Kd.R_bound ho) (fun k_ hk => hk.2.1)); have HN := Aside0.mk (Kd.N_below HN1.out hb); have HV := Aside0.mk (Kd.V_below HV1.out hb); have HB := Aside0.mk (below_step HB1.out hb); have HS2 := Aside0.mk hb.size; have HL7 := Aside0.mk (Kd.N_lt HN1.out); clear ho hb HB1 HN1 HV1 HX1 HXb))
        go_ret2
        exact ⟨_, rfl, Kd.N_nil _ _ _ _ _, HB.out⟩
     ·rw [if_neg hb] at hl
      exact absurd hl (by simp)
    ·obtain rfl : i = M := by omega
     have hl := HL.out
     clear HL
     rw [Nat.sub_self] at hl
     unfold creelref15_Take.l at hl
     obtain rfl := Option.some.inj hl
     obtain ⟨⟨p, pe⟩, hp, he⟩ := Option.bind_eq_some_iff.mp HE.out
     have HP := Aside0.mk hp
     clear HE hl hp
     obtain ⟨A7, c7, rfl⟩ := Kd.N_slice HN.out
     have HS0 := fun (W : World) (hW : Below w.heap.size w W) => Kd.C_string (P := Try.prog) (A := A0) (c := c0) Try.underlying26 Try.underlying5 Try.underlying9 (Kd.C_below HR0.out hW)
     have HSH := Aside0.mk HS0
     clear HS0
     simp only at he
     by_cases hok : pe = 0 ∧ (strOfNums p).toList = (strOfNums l0).toList
     ·rw [if_pos hok] at he
      obtain ⟨rfl, hq⟩ := hok
      simp only [Option.some.injEq, Prod.mk.injEq] at he
      obtain ⟨rfl, rfl⟩ := he
      have d1 : ((strOfNums p).toList == (strOfNums l0).toList) = true := beq_iff_eq.mpr hq
      clear hq
      go_wp2_with (first | (go_at_call 28; (with_reducible refine (creelref15_Put.calls k (fun k_ => w.heap.size ≤ k_) _ _ acc _ _ _ (Kd.N_V HN.out) HP.out).mono ?_); rintro e w1 ⟨v1, rfl, ho, hb⟩; obtain ⟨Ap, cp, rfl⟩ := Kd.R_slice ho; have HN2 := Aside0.mk (Kd.N_below HN.out hb); have HB2 := Aside0.mk (below_step HB.out hb); have hs1 := Kd.C_string (P := Try.prog) (A := Ap) (c := cp) Try.underlying26 Try.underlying5 Try.underlying9 (Kd.R_reads' ho).2.2; have hs2 := HSH.out _ HB2.out; clear ho hb))
      go_ret2
      exact ⟨_, rfl, HN2.out, HB2.out⟩
     ·rw [if_neg hok] at he
      simp only [Option.some.injEq, Prod.mk.injEq] at he
      obtain ⟨rfl, rfl⟩ := he
      by_cases c1 : pe = 0
      ·subst c1
       have d1 : ((strOfNums p).toList == (strOfNums l0).toList) = false := beq_eq_false_iff_ne.mpr (fun hq => hok ⟨rfl, hq⟩)
       go_wp2_with (first | (go_at_call 28; (with_reducible refine (creelref15_Put.calls k (fun k_ => w.heap.size ≤ k_) _ _ acc _ _ _ (Kd.N_V HN.out) HP.out).mono ?_); rintro e w1 ⟨v1, rfl, ho, hb⟩; obtain ⟨Ap, cp, rfl⟩ := Kd.R_slice ho; have HN2 := Aside0.mk (Kd.N_below HN.out hb); have HB2 := Aside0.mk (below_step HB.out hb); have hs1 := Kd.C_string (P := Try.prog) (A := Ap) (c := cp) Try.underlying26 Try.underlying5 Try.underlying9 (Kd.R_reads' ho).2.2; have hs2 := HSH.out _ HB2.out; clear ho hb))
       go_ret2
       exact ⟨_, rfl, Kd.N_nil _ _ _ _ _, HB2.out⟩
      ·have d1 : (pe != 0) = true := bne_iff_ne.mpr c1
       go_wp2_with (first | (go_at_call 28; (with_reducible refine (creelref15_Put.calls k (fun k_ => w.heap.size ≤ k_) _ _ acc _ _ _ (Kd.N_V HN.out) HP.out).mono ?_); rintro e w1 ⟨v1, rfl, ho, hb⟩; obtain ⟨Ap, cp, rfl⟩ := Kd.R_slice ho; have HN2 := Aside0.mk (Kd.N_below HN.out hb); have HB2 := Aside0.mk (below_step HB.out hb); have hs1 := Kd.C_string (P := Try.prog) (A := Ap) (c := cp) Try.underlying26 Try.underlying5 Try.underlying9 (Kd.R_reads' ho).2.2; have hs2 := HSH.out _ HB2.out; clear ho hb))
       go_ret2
       exact ⟨_, rfl, Kd.N_nil _ _ _ _ _, HB2.out⟩
  ·rw [if_neg hok] at h
   simp only [Option.some.injEq, Prod.mk.injEq] at h
   obtain ⟨rfl, rfl⟩ := h
   obtain ⟨M, rfl⟩ := Int.eq_ofNat_of_zero_le hn
   by_cases c1 : e0 = 0
   ·subst c1
    have d2 : decide ((16 : Int) < (M : Int)) = true := decide_eq_true (by have : ¬ (M : Int) ≤ 16 := fun h_ => hok ⟨rfl, h_⟩; omega)
    have d3 : decide (16 < M) = true := decide_eq_true (by have : ¬ (M : Int) ≤ 16 := fun h_ => hok ⟨rfl, h_⟩; omega)
    go_enter Try.func34, Try.ntmps34
    go_wp2_with (first | (go_at_call 54; (with_reducible refine (creelref01_Take.calls k _ _ l0 _ _ _ _ HR0.out HC0.out HT.out).mono ?_); rintro e w1 ⟨v1, rfl, ho, hb⟩; obtain ⟨Ax, cx, rfl⟩ := Kd.R_slice ho; have HX := Aside0.mk (Kd.R_mono (Kd.R_bound ho) (fun k_ hk => hk.2.1)); have HB := Aside0.mk hb; clear ho hb))
    go_ret2
    exact ⟨_, rfl, Kd.N_nil _ _ _ _ _, HB.out⟩
   ·have d1 : (e0 != 0) = true := bne_iff_ne.mpr c1
    go_enter Try.func34, Try.ntmps34
    go_wp2_with (first | (go_at_call 54; (with_reducible refine (creelref01_Take.calls k _ _ l0 _ _ _ _ HR0.out HC0.out HT.out).mono ?_); rintro e w1 ⟨v1, rfl, ho, hb⟩; obtain ⟨Ax, cx, rfl⟩ := Kd.R_slice ho; have HX := Aside0.mk (Kd.R_mono (Kd.R_bound ho) (fun k_ hk => hk.2.1)); have HB := Aside0.mk hb; clear ho hb))
    go_ret2
    exact ⟨_, rfl, Kd.N_nil _ _ _ _ _, HB.out⟩
 ·rw [if_neg hn] at h
  exact absurd h (by simp)

/-! ### creelref16_Open: function 16 -/
def creelref16_Open.l0 : Nat → List Int → List (List Int) → List (List Int) → Int → Option ((List (List Int)) × Int)
 | 0, _, _, _, _ => none
 | k + 1, x0, x4, x6, x7 => if x7 < (x4.length : Int) then (if 0 ≤ x7 then ((creelref15_Take.f k (rd_L1 x4 x7)).bind fun bt488 => (if bt488.2 = 0 then (if x6.length + bt488.1.length < 5864062014805 then (creelref16_Open.l0 k x0 x4 (x6 ++ bt488.1) (wrap64 (x7 + 1))) else (none)) else (some (([] : List (List Int)), 6)))) else (none)) else ((creelref16_Build.f k x6).bind fun bt495 => (if bt495.2 = 0 then (if (strOfNums bt495.1).toList = (strOfNums x0).toList then (some (x6, 0)) else (some (([] : List (List Int)), 6))) else (some (([] : List (List Int)), 6))))
def creelref16_Open.f (k : Nat) (l0 : List Int) : Option ((List (List Int)) × Int) := (creelref03_Only.f k l0).bind fun bt483 => (if bt483.2 = 0 then (creelref16_Open.l0 k l0 bt483.1 ([] : List (List Int)) 0) else (some (([] : List (List Int)), 6)))
set_option maxHeartbeats 8000000 in
set_option maxRecDepth 100000 in
theorem creelref16_Open.calls (k : Nat) (A0 : Option Addr) (c0 : Nat) (l0 : List Int) (r1 : List (List Int)) (r2 : Int) (w : World) (hr0 : Kd.C (Kd.int .u8) w A0 l0.length l0) (hc0 : l0.length ≤ c0) (h : creelref16_Open.f k l0 = some (r1, r2)) :
  Calls Try.prog 16 #[.slice A0 l0.length c0] w fun e w' => ∃ v0_ : Value, e = .returned (.tuple #[v0_, .int .i64 r2]) ∧ Kd.N (Kd.slice 5 (Kd.int .u8)) 26 w' w.heap.size (fun k_ => (w.heap.size ≤ k_)) v0_ r1 ∧ Below w.heap.size w w' := by
 have HR0 := Aside0.mk hr0
 have HC0 := Aside0.mk hc0
 clear hr0 hc0
 have HB := Aside0.mk (Below.refl w.heap.size w)
 have H : ((creelref03_Only.f k l0).bind fun bt483 => (if bt483.2 = 0 then (creelref16_Open.l0 k l0 bt483.1 ([] : List (List Int)) 0) else (some (([] : List (List Int)), 6)))) = some (r1, r2) := h
 clear h
 replace H := Option.bind_eq_some_iff.mp H
 obtain ⟨⟨t483, t484⟩, A20, H⟩ := H
 replace H : (if t484 = 0 then (creelref16_Open.l0 k l0 t483 ([] : List (List Int)) 0) else (some (([] : List (List Int)), 6))) = some (r1, r2) := H
 have A2 := Aside0.mk A20
 clear A20
 by_cases c3 : t484 = 0
 ·rw [if_pos c3] at H
  have c3b0 : (t484 == 0) = true := beq_iff_eq.mpr c3
  have c3b1 : (t484 != 0) = false := bne_eq_false_iff_eq.mpr c3
  clear c3
  have H' := Aside0.mk H
  clear H
  go_enter Try.func16, Try.ntmps16
  go_wp2_with (first | ((with_reducible refine gate_callee (f := 33) rfl ?_); refine goesL_ (some 14) rfl rfl Try.func33 (by kernel_rfl) rfl #[.slice A0 l0.length c0] rfl (by (try simp only [List.map_toArray, List.map_cons, List.map_nil]); first | done | rfl | (simp only [List.length_drop, List.length_take]; rfl)) ?_; (with_reducible refine (creelref03_Only.calls k _ _ l0 t483 t484 _ ?side1 ?side2 A2.out).mono ?_); (case side1 => repeat (first | exact HR0.out | (with_reducible refine Kd.C_alloc ?_ _) | (with_reducible refine Kd.C_drewN ?_ _) | (with_reducible refine Kd.C_drew ?_))); (case side2 => exact HC0.out); rintro e w4 ⟨v485, rfl, ho0, hb⟩; refine ⟨_, rfl, ?_⟩; have n0_ := Aside0.mk (Kd.N_lower (Kd.N_mono (ok' := fun k_ => (w.heap.size ≤ k_)) (Kd.S_N (Kd.S_bound ho0)) (fun k_ hk_ => (Nat.le_trans (below_size (by repeat (first | (with_reducible first | exact HB.out | apply below_alloc | apply pw_below_drewN | apply below_drew1) | exact HB.out))) hk_.2.1))) (below_size (by repeat (first | (with_reducible first | exact HB.out | apply below_alloc | apply pw_below_drewN | apply below_drew1) | exact HB.out)))); have n1_ := Aside0.mk (below_step (by repeat (first | (with_reducible first | exact HB.out | apply below_alloc | apply pw_below_drewN | apply below_drew1) | exact HB.out)) hb); clear HB; have HO486 := n0_; have HB := n1_; clear n0_ n1_; (try clear hb); (try clear hb2); (try clear hk); (try clear hi); (try clear ho0)))
  go_loopg [6, 7] k (fun kq v6 v7 w' => ∃ (x6_1 : List (List Int)) (x7_1 : Int), v7 = .int .i64 x7_1 ∧ Aside0 (creelref16_Open.l0 kq l0 t483 x6_1 x7_1 = some (r1, r2)) ∧ Aside0 (kq ≤ k) ∧ Aside0 (Kd.N (Kd.slice 5 (Kd.int .u8)) 26 w' w.heap.size (fun k_ => (w.heap.size ≤ k_) ∧ some k_ ≠ (v6 : Value).ownBlock) v485 t483) ∧ Aside0 (Kd.N (Kd.slice 5 (Kd.int .u8)) 26 w' w.heap.size (fun k_ => (w.heap.size ≤ k_) ∧ some k_ ≠ (v485 : Value).ownBlock) v6 x6_1) ∧ Aside0 (Below w.heap.size w w'))
  case atStart => exact ⟨(([] : List (List Int))), (0), (by first | rfl | (simp; done) | (simp [*]; done)), H', ⟨Nat.le_refl _⟩, ⟨by (with_reducible repeat (first | apply Kd.N_alloc | apply Kd.N_drewN | apply Kd.N_drew)); exact Kd.N_mono HO486.out (fun _ hk => ⟨hk, (by simp [Value.ownBlock])⟩)⟩, ⟨by first | exact Kd.S_nil _ _ _ _ _ | exact Kd.N_nil _ _ _ _ _ | exact Kd.V_nil _ _ _ _ _ | exact Kd.Q_nil _ _ _ _ _ | exact Kd.R_nil _ _ _ _ _⟩, ⟨by repeat (first | (with_reducible first | exact HB.out | apply below_alloc | apply pw_below_drewN | apply below_drew1) | exact HB.out)⟩⟩
  case round =>
   clear H'
   try clear c1
   try clear p2
   try clear c3
   try clear c3b0
   try clear c3b1
   obtain ⟨x6_1, x7_1, rfl, HA, HK1, HO_4, HO_6, HB⟩ := hrel
   cases gk with
   | zero => exact absurd HA.out (by simp [creelref16_Open.l0])
   | succ k1 =>
    have H := HA.out
    clear HA
    simp only [creelref16_Open.l0] at H
    by_cases c5 : x7_1 < (t483.length : Int)
    ·rw [if_pos c5] at H
     have c5b0 : decide (x7_1 < (t483.length : Int)) = true := decide_eq_true c5
     clear c5
     by_cases c6 : 0 ≤ x7_1
     ·rw [if_pos c6] at H
      have c6b0 : decide (0 ≤ x7_1) = true := decide_eq_true c6
      clear c6
      replace H := Option.bind_eq_some_iff.mp H
      obtain ⟨⟨t488, t491⟩, A70, H⟩ := H
      replace H : (if t491 = 0 then (if x6_1.length + t488.length < 5864062014805 then (creelref16_Open.l0 k1 l0 t483 (x6_1 ++ t488) (wrap64 (x7_1 + 1))) else (none)) else (some (([] : List (List Int)), 6))) = some (r1, r2) := H
      have A7 := Aside0.mk A70
      clear A70
      by_cases c8 : t491 = 0
      ·rw [if_pos c8] at H
       have c8b0 : (t491 == 0) = true := beq_iff_eq.mpr c8
       have c8b1 : (t491 != 0) = false := bne_eq_false_iff_eq.mpr c8
       clear c8
       by_cases c9 : x6_1.length + t488.length < 5864062014805
       ·rw [if_pos c9] at H
        have LMc9 := Aside0.mk c9
        clear c9
        obtain ⟨y492, hy492⟩ : ∃ y_ : List (List Int), y_ = (x6_1 ++ t488) := ⟨_, rfl⟩
        replace H : (creelref16_Open.l0 k1 l0 t483 y492 (wrap64 (x7_1 + 1))) = some (r1, r2) := by first | (rw [hy492]; with_reducible exact H) | (have H2_ := (Option.bind_some _ _).symm.trans H; rw [hy492]; with_reducible exact H2_) | (have H2_ := (Option.bind_some _ _).symm.trans H; with_reducible exact H2_) | with_reducible exact H | (rw [hy492]; exact H) | exact H
        have Ny492 := Aside0.mk hy492
        clear hy492
        have H' := Aside0.mk H
        clear H
        obtain ⟨Ao10, co10, eo10⟩ := Kd.N_slice HO_4.out
        subst eo10
        have p487 : 0 ≤ (x7_1 : Int) := of_decide_eq_true (by first | (with_reducible assumption) | assumption)
        have q487 : x7_1 < (t483.length : Int) := of_decide_eq_true (by first | (with_reducible assumption) | assumption)
        obtain ⟨ad487, A487_0, c487_0, e487, hx487_0, hl487_0, hi487_0⟩ := at_L1 (Kd.N_reads' HO_4.out).2.2 x7_1 p487 q487
        cases e487
        obtain ⟨ce487, hce487, hMe487, hcc487⟩ := Kd.N_get HO_4.out [] x7_1 p487 (by first | exact q487 | exact of_decide_eq_true (by first | (with_reducible assumption) | assumption) | (have e_ := (Kd.N_reads' HO_4.out).1; omega))
        obtain ⟨ua487_0, uc487_0, rfl, ul487_0, ge487_0⟩ := Kd.FK_slice_open hMe487
        have hv487_0 := hcc487 0 _ rfl
        rw [Nat.add_zero, show ((Kd.slice 5 (Kd.int .u8))).sz = 1 from rfl, Nat.mul_one] at hv487_0
        replace hv487_0 := Option.some.inj (hv487_0.symm.trans hx487_0)
        injection hv487_0 with hva_ hvn_ hvc_
        rw [hva_] at ge487_0
        rw [hvc_] at ul487_0
        have HL487_0 := Aside0.mk (show Kd.V (Kd.int .u8) 5 _ w.heap.size _ _ (rd_L1 t483 x7_1) from Kd.V_mk ul487_0 ge487_0)
        clear hva_ hvn_ hvc_ ge487_0 ul487_0
        clear hcc487 hce487
        have HR487_0 := Aside0.mk hi487_0
        have HC487_0 := Aside0.mk hl487_0
        clear hi487_0 hl487_0
        replace p487 := eq_true p487
        replace q487 := eq_true q487
        go_wp2_with (first | ((with_reducible refine gate_callee (f := 34) rfl ?_); refine goesL_ (some 30) rfl rfl Try.func34 (by kernel_rfl) rfl #[.slice A487_0 (rd_L1 t483 x7_1).length c487_0] rfl (by (try simp only [List.map_toArray, List.map_cons, List.map_nil]); first | done | rfl | (simp only [List.length_drop, List.length_take]; rfl)) ?_; (with_reducible refine (creelref15_Take.calls k1 _ _ (rd_L1 t483 x7_1) t488 t491 _ ?side1 ?side2 A7.out).mono ?_); (case side1 => repeat (first | exact (by repeat (first | (with_reducible exact HR487_0.out) | (with_reducible refine Kd.C_alloc ?_ _) | (with_reducible refine Kd.C_drewN ?_ _) | (with_reducible refine Kd.C_drew ?_) | exact HR487_0.out)) | (with_reducible refine Kd.C_alloc ?_ _) | (with_reducible refine Kd.C_drewN ?_ _) | (with_reducible refine Kd.C_drew ?_))); (case side2 => exact HC487_0.out); rintro e w11 ⟨v489, rfl, ho0, hb⟩; refine ⟨_, rfl, ?_⟩; have n0_ := Aside0.mk (Kd.N_elder' (by (with_reducible repeat (first | apply Kd.N_alloc | apply Kd.N_drewN | apply Kd.N_drew)); exact HO_4.out) (by first | exact Kd.N_base ho0 | exact Kd.N_base (Kd.S_N (Kd.S_bound ho0))) hb); have n1_ := Aside0.mk (Kd.N_elder' (by (with_reducible repeat (first | apply Kd.N_alloc | apply Kd.N_drewN | apply Kd.N_drew)); exact HO_6.out) (by first | exact Kd.N_base ho0 | exact Kd.N_base (Kd.S_N (Kd.S_bound ho0))) hb); have n2_ := Aside0.mk (Kd.V_elder' (by (with_reducible repeat (first | apply Kd.V_alloc | apply Kd.V_drewN | apply Kd.V_drew)); exact HL487_0.out) (by first | exact Kd.N_base ho0 | exact Kd.N_base (Kd.S_N (Kd.S_bound ho0))) hb); have n3_ := Aside0.mk (Kd.N_lower (Kd.N_mono (ok' := fun k_ => (w.heap.size ≤ k_) ∧ some k_ ≠ (.slice (some ad487) t483.length co10 : Value).ownBlock ∧ some k_ ≠ (u6 : Value).ownBlock) ho0 (fun k_ hk_ => ⟨(Nat.le_trans (below_size (by repeat (first | (with_reducible first | exact HB.out | apply below_alloc | apply pw_below_drewN | apply below_drew1) | exact HB.out))) hk_), (Kd.fresh' (Kd.N_lt (by (with_reducible repeat (first | apply Kd.N_alloc | apply Kd.N_drewN | apply Kd.N_drew)); exact HO_4.out)) k_ hk_), (Kd.fresh' (Kd.N_lt (by (with_reducible repeat (first | apply Kd.N_alloc | apply Kd.N_drewN | apply Kd.N_drew)); exact HO_6.out)) k_ hk_)⟩)) (below_size (by repeat (first | (with_reducible first | exact HB.out | apply below_alloc | apply pw_below_drewN | apply below_drew1) | exact HB.out)))); have n4_ := Aside0.mk (Kd.C_below (by repeat (first | (with_reducible exact HR487_0.out) | (with_reducible refine Kd.C_alloc ?_ _) | (with_reducible refine Kd.C_drewN ?_ _) | (with_reducible refine Kd.C_drew ?_) | exact HR487_0.out)) hb); have n5_ := Aside0.mk (below_step (by repeat (first | (with_reducible first | exact HB.out | apply below_alloc | apply pw_below_drewN | apply below_drew1) | exact HB.out)) hb); clear HO_4; clear HO_6; clear HL487_0; clear HR487_0; clear HB; have HO_4 := n0_; have HO_6 := n1_; have HL487_0 := n2_; have HO490 := n3_; have HR487_0 := n4_; have HB := n5_; clear n0_ n1_ n2_ n3_ n4_ n5_; (try clear hb); (try clear hb2); (try clear hk); (try clear hi); (try clear ho0); obtain ⟨Ao13, co13, eo13⟩ := Kd.N_slice HO490.out; subst eo13) | ((with_reducible refine gate_builtin (b := .append) (xs := #[.tmp 35, .tmp 36]) rfl ?_); at_builtin; refine Kd.N_append_rows (Kd.slice 5 (Kd.int .u8)) (w0 := w) w.heap.size rfl (.tmp 35) (.tmp 36) 22 26 (.slice none 0 0) 24 rfl Try.underlying22 info26 rfl (by decide) (by omega) u6 x6_1 t488 _ _ _ (fun k_ => (w.heap.size ≤ k_) ∧ some k_ ≠ (.slice (some ad487) t483.length co10 : Value).ownBlock) (fun k_ => ((fun k_ => (w.heap.size ≤ k_) ∧ some k_ ≠ (.slice (some ad487) t483.length co10 : Value).ownBlock)) k_ ∧ some k_ ≠ (u6 : Value).ownBlock) rfl rfl ?aO ?aR (fun _ hk => hk) ?aF ?aB ?aS ?aL ?_; (case aR => exact (by skip; exact Kd.N_F (Kd.N_mono (ok' := (fun k_ => ((fun k_ => (w.heap.size ≤ k_) ∧ some k_ ≠ (.slice (some ad487) t483.length co10 : Value).ownBlock)) k_ ∧ some k_ ≠ (u6 : Value).ownBlock)) (HO490.out) (fun k_ hk => ⟨⟨hk.1, hk.2.1⟩, hk.2.2⟩)))); (case aB => exact (by repeat (first | (with_reducible first | exact HB.out | apply below_alloc | apply pw_below_drewN | apply below_drew1) | exact HB.out))); (case aF => exact (fun k_ hk => ⟨(Nat.le_trans (below_size (by repeat (first | (with_reducible first | exact HB.out | apply below_alloc | apply pw_below_drewN | apply below_drew1) | exact HB.out))) hk), Kd.fresh' (Kd.N_lt (by (with_reducible repeat (first | apply Kd.N_alloc | apply Kd.N_drewN | apply Kd.N_drew)); exact HO_4.out)) k_ hk⟩)); (case aO => exact (by (with_reducible repeat (first | apply Kd.N_alloc | apply Kd.N_drewN | apply Kd.N_drew)); exact Kd.N_mono HO_6.out (fun _ hk => ⟨hk.1.1, hk.1.2⟩))); (case aS => exact (below_size (by repeat (first | (with_reducible first | exact HB.out | apply below_alloc | apply pw_below_drewN | apply below_drew1) | exact HB.out)))); (case aL => have := LMc9.out; omega); intro v493 w12 ho hb hg hat; rw [← Ny492.out] at ho; have n0_ := Aside0.mk (Kd.N_afterv (ok := (fun k_ => (w.heap.size ≤ k_) ∧ some k_ ≠ (.slice Ao13 t488.length co13 : Value).ownBlock)) (by (with_reducible repeat (first | apply Kd.N_alloc | apply Kd.N_drewN | apply Kd.N_drew)); exact Kd.N_mono HO_4.out (fun _ hk => ⟨⟨hk.1.1, hk.2⟩, hk.1.2⟩)) hg hat); have n1_ := Aside0.mk (Kd.V_afterv (ok := (fun k_ => (w.heap.size ≤ k_) ∧ some k_ ≠ (.slice (some ad487) t483.length co10 : Value).ownBlock ∧ some k_ ≠ (.slice Ao13 t488.length co13 : Value).ownBlock)) (by (with_reducible repeat (first | apply Kd.V_alloc | apply Kd.V_drewN | apply Kd.V_drew)); exact Kd.V_mono HL487_0.out (fun _ hk => ⟨⟨hk.1.1.1, ⟨hk.1.2, hk.2⟩⟩, hk.1.1.2⟩)) hg hat); have n2_ := Aside0.mk (Kd.N_afterv (ok := (fun k_ => (w.heap.size ≤ k_) ∧ some k_ ≠ (.slice (some ad487) t483.length co10 : Value).ownBlock)) (by (with_reducible repeat (first | apply Kd.N_alloc | apply Kd.N_drewN | apply Kd.N_drew)); exact Kd.N_mono HO490.out (fun _ hk => ⟨⟨hk.1, hk.2.1⟩, hk.2.2⟩)) hg hat); have n3_ := Aside0.mk (hb); have n4_ := Aside0.mk (ho); clear HO_4; clear HL487_0; clear HO490; clear HB; clear HO_6; have HO_4 := n0_; have HL487_0 := n1_; have HO490 := n2_; have HB := n3_; have HO494 := n4_; clear n0_ n1_ n2_ n3_ n4_; clear ho hb hg hat))
        go_roundg k1
        case measure => have := HK1.out; omega
        case rel => exact ⟨(y492), (wrap64 (x7_1 + 1)), (by first | rfl | (simp; done) | (simp [*]; done)), H', ⟨by have := HK1.out; omega⟩, ⟨by (with_reducible repeat (first | apply Kd.N_alloc | apply Kd.N_drewN | apply Kd.N_drew)); exact Kd.N_mono HO_4.out (fun _ hk => ⟨hk.1.1, hk.2⟩)⟩, ⟨by (with_reducible repeat (first | apply Kd.N_alloc | apply Kd.N_drewN | apply Kd.N_drew)); exact HO494.out⟩, ⟨by repeat (first | (with_reducible first | exact HB.out | apply below_alloc | apply pw_below_drewN | apply below_drew1) | exact HB.out)⟩⟩
       ·rw [if_neg c9] at H
        exact absurd H (by simp)
      ·rw [if_neg c8] at H
       have c8b0 : (t491 == 0) = false := beq_eq_false_iff_ne.mpr c8
       have c8b1 : (t491 != 0) = true := bne_iff_ne.mpr c8
       simp only [Option.some.injEq, Prod.mk.injEq] at H
       obtain ⟨rfl, rfl⟩ := H
       obtain ⟨Ao14, co14, eo14⟩ := Kd.N_slice HO_4.out
       subst eo14
       have p487 : 0 ≤ (x7_1 : Int) := of_decide_eq_true (by first | (with_reducible assumption) | assumption)
       have q487 : x7_1 < (t483.length : Int) := of_decide_eq_true (by first | (with_reducible assumption) | assumption)
       obtain ⟨ad487, A487_0, c487_0, e487, hx487_0, hl487_0, hi487_0⟩ := at_L1 (Kd.N_reads' HO_4.out).2.2 x7_1 p487 q487
       cases e487
       obtain ⟨ce487, hce487, hMe487, hcc487⟩ := Kd.N_get HO_4.out [] x7_1 p487 (by first | exact q487 | exact of_decide_eq_true (by first | (with_reducible assumption) | assumption) | (have e_ := (Kd.N_reads' HO_4.out).1; omega))
       obtain ⟨ua487_0, uc487_0, rfl, ul487_0, ge487_0⟩ := Kd.FK_slice_open hMe487
       have hv487_0 := hcc487 0 _ rfl
       rw [Nat.add_zero, show ((Kd.slice 5 (Kd.int .u8))).sz = 1 from rfl, Nat.mul_one] at hv487_0
       replace hv487_0 := Option.some.inj (hv487_0.symm.trans hx487_0)
       injection hv487_0 with hva_ hvn_ hvc_
       rw [hva_] at ge487_0
       rw [hvc_] at ul487_0
       have HL487_0 := Aside0.mk (show Kd.V (Kd.int .u8) 5 _ w.heap.size _ _ (rd_L1 t483 x7_1) from Kd.V_mk ul487_0 ge487_0)
       clear hva_ hvn_ hvc_ ge487_0 ul487_0
       clear hcc487 hce487
       have HR487_0 := Aside0.mk hi487_0
       have HC487_0 := Aside0.mk hl487_0
       clear hi487_0 hl487_0
       replace p487 := eq_true p487
       replace q487 := eq_true q487
       go_wp2_with (first | ((with_reducible refine gate_callee (f := 34) rfl ?_); refine goesL_ (some 30) rfl rfl Try.func34 (by kernel_rfl) rfl #[.slice A487_0 (rd_L1 t483 x7_1).length c487_0] rfl (by (try simp only [List.map_toArray, List.map_cons, List.map_nil]); first | done | rfl | (simp only [List.length_drop, List.length_take]; rfl)) ?_; (with_reducible refine (creelref15_Take.calls k1 _ _ (rd_L1 t483 x7_1) t488 t491 _ ?side1 ?side2 A7.out).mono ?_); (case side1 => repeat (first | exact (by repeat (first | (with_reducible exact HR487_0.out) | (with_reducible refine Kd.C_alloc ?_ _) | (with_reducible refine Kd.C_drewN ?_ _) | (with_reducible refine Kd.C_drew ?_) | exact HR487_0.out)) | (with_reducible refine Kd.C_alloc ?_ _) | (with_reducible refine Kd.C_drewN ?_ _) | (with_reducible refine Kd.C_drew ?_))); (case side2 => exact HC487_0.out); rintro e w15 ⟨v489, rfl, ho0, hb⟩; refine ⟨_, rfl, ?_⟩; have n0_ := Aside0.mk (Kd.N_elder' (by (with_reducible repeat (first | apply Kd.N_alloc | apply Kd.N_drewN | apply Kd.N_drew)); exact HO_4.out) (by first | exact Kd.N_base ho0 | exact Kd.N_base (Kd.S_N (Kd.S_bound ho0))) hb); have n1_ := Aside0.mk (Kd.N_elder' (by (with_reducible repeat (first | apply Kd.N_alloc | apply Kd.N_drewN | apply Kd.N_drew)); exact HO_6.out) (by first | exact Kd.N_base ho0 | exact Kd.N_base (Kd.S_N (Kd.S_bound ho0))) hb); have n2_ := Aside0.mk (Kd.V_elder' (by (with_reducible repeat (first | apply Kd.V_alloc | apply Kd.V_drewN | apply Kd.V_drew)); exact HL487_0.out) (by first | exact Kd.N_base ho0 | exact Kd.N_base (Kd.S_N (Kd.S_bound ho0))) hb); have n3_ := Aside0.mk (Kd.N_lower (Kd.N_mono (ok' := fun k_ => (w.heap.size ≤ k_) ∧ some k_ ≠ (.slice (some ad487) t483.length co14 : Value).ownBlock ∧ some k_ ≠ (u6 : Value).ownBlock) ho0 (fun k_ hk_ => ⟨(Nat.le_trans (below_size (by repeat (first | (with_reducible first | exact HB.out | apply below_alloc | apply pw_below_drewN | apply below_drew1) | exact HB.out))) hk_), (Kd.fresh' (Kd.N_lt (by (with_reducible repeat (first | apply Kd.N_alloc | apply Kd.N_drewN | apply Kd.N_drew)); exact HO_4.out)) k_ hk_), (Kd.fresh' (Kd.N_lt (by (with_reducible repeat (first | apply Kd.N_alloc | apply Kd.N_drewN | apply Kd.N_drew)); exact HO_6.out)) k_ hk_)⟩)) (below_size (by repeat (first | (with_reducible first | exact HB.out | apply below_alloc | apply pw_below_drewN | apply below_drew1) | exact HB.out)))); have n4_ := Aside0.mk (Kd.C_below (by repeat (first | (with_reducible exact HR487_0.out) | (with_reducible refine Kd.C_alloc ?_ _) | (with_reducible refine Kd.C_drewN ?_ _) | (with_reducible refine Kd.C_drew ?_) | exact HR487_0.out)) hb); have n5_ := Aside0.mk (below_step (by repeat (first | (with_reducible first | exact HB.out | apply below_alloc | apply pw_below_drewN | apply below_drew1) | exact HB.out)) hb); clear HO_4; clear HO_6; clear HL487_0; clear HR487_0; clear HB; have HO_4 := n0_; have HO_6 := n1_; have HL487_0 := n2_; have HO490 := n3_; have HR487_0 := n4_; have HB := n5_; clear n0_ n1_ n2_ n3_ n4_ n5_; (try clear hb); (try clear hb2); (try clear hk); (try clear hi); (try clear ho0)))
       go_ret2
       exact ⟨_, by first | rfl | (simp [errW_none, errW_some] <;> rfl) | (simp [*, errW_none, errW_some] <;> rfl), by first | exact Kd.S_nil _ _ _ _ _ | exact Kd.N_nil _ _ _ _ _ | exact Kd.V_nil _ _ _ _ _ | exact Kd.Q_nil _ _ _ _ _ | exact Kd.R_nil _ _ _ _ _, by repeat (first | (with_reducible first | exact HB.out | apply below_alloc | apply pw_below_drewN | apply below_drew1) | exact HB.out)⟩
     ·rw [if_neg c6] at H
      exact absurd H (by simp)
    ·rw [if_neg c5] at H
     have c5b0 : decide (x7_1 < (t483.length : Int)) = false := decide_eq_false c5
     clear c5
     replace H := Option.bind_eq_some_iff.mp H
     obtain ⟨⟨t495, t496⟩, A160, H⟩ := H
     replace H : (if t496 = 0 then (if (strOfNums t495).toList = (strOfNums l0).toList then (some (x6_1, 0)) else (some (([] : List (List Int)), 6))) else (some (([] : List (List Int)), 6))) = some (r1, r2) := H
     have A16 := Aside0.mk A160
     clear A160
     by_cases c17 : t496 = 0
     ·rw [if_pos c17] at H
      have c17b0 : (t496 == 0) = true := beq_iff_eq.mpr c17
      have c17b1 : (t496 != 0) = false := bne_eq_false_iff_eq.mpr c17
      clear c17
      by_cases c18 : (strOfNums t495).toList = (strOfNums l0).toList
      ·rw [if_pos c18] at H
       have c18b0 : ((strOfNums t495).toList == (strOfNums l0).toList) = true := beq_iff_eq.mpr c18
       have c18b1 : ((strOfNums t495).toList != (strOfNums l0).toList) = false := bne_eq_false_iff_eq.mpr c18
       clear c18
       simp only [Option.some.injEq, Prod.mk.injEq] at H
       obtain ⟨rfl, rfl⟩ := H
       obtain ⟨Ao19, co19, eo19⟩ := Kd.N_slice HO_4.out
       subst eo19
       obtain ⟨Ao20, co20, eo20⟩ := Kd.N_slice HO_6.out
       subst eo20
       go_wp2_with (first | ((with_reducible refine gate_callee (f := 14) rfl ?_); refine goesL_ (some 40) rfl rfl Try.func14 (by kernel_rfl) rfl #[.slice Ao20 x6_1.length co20] rfl (by (try simp only [List.map_toArray, List.map_cons, List.map_nil]); first | done | rfl | (simp only [List.length_drop, List.length_take]; rfl)) ?_; (with_reducible refine (creelref16_Build.calls k1 _ _ x6_1 t495 t496 _ ?side1 ?side2 A16.out).mono ?_); (case side1 => repeat (first | exact (Kd.N_reads' HO_6.out).2.2 | (with_reducible refine Kd.C_alloc ?_ _) | (with_reducible refine Kd.C_drewN ?_ _) | (with_reducible refine Kd.C_drew ?_))); (case side2 => exact (Kd.N_reads' HO_6.out).2.1); rintro e w21 ⟨v497, rfl, ho0, hb⟩; refine ⟨_, rfl, ?_⟩; have n0_ := Aside0.mk (Kd.N_elder' (by (with_reducible repeat (first | apply Kd.N_alloc | apply Kd.N_drewN | apply Kd.N_drew)); exact HO_4.out) (Kd.R_base ho0) hb); have n1_ := Aside0.mk (Kd.N_elder' (by (with_reducible repeat (first | apply Kd.N_alloc | apply Kd.N_drewN | apply Kd.N_drew)); exact HO_6.out) (Kd.R_base ho0) hb); have n2_ := Aside0.mk (Kd.R_lower (Kd.R_newM (M := fun k_ => (w.heap.size ≤ k_)) ho0 (below_size (by repeat (first | (with_reducible first | exact HB.out | apply below_alloc | apply pw_below_drewN | apply below_drew1) | exact HB.out))) (fun k_ h_ => h_)) (below_size (by repeat (first | (with_reducible first | exact HB.out | apply below_alloc | apply pw_below_drewN | apply below_drew1) | exact HB.out)))); have n3_ := Aside0.mk (below_step (by repeat (first | (with_reducible first | exact HB.out | apply below_alloc | apply pw_below_drewN | apply below_drew1) | exact HB.out)) hb); clear HO_4; clear HO_6; clear HB; have HO_4 := n0_; have HO_6 := n1_; have HO498 := n2_; have HB := n3_; clear n0_ n1_ n2_ n3_; (try clear hb); (try clear hb2); (try clear hk); (try clear hi); (try clear ho0); (first | have hcv22 := own_string (P := Try.prog) Try.underlying26 Try.underlying5 Try.underlying9 (Kd.own_of_R HO498.out) | have hcv22 := Hand.V_string (P := Try.prog) Try.underlying26 Try.underlying5 Try.underlying9 HO498.out); have hcv23 := Kd.C_string (P := Try.prog) (A := A0) (c := c0) Try.underlying26 Try.underlying5 Try.underlying9 (Kd.C_below HR0.out HB.out)))
       go_ret2
       exact ⟨_, by first | rfl | (simp [errW_none, errW_some] <;> rfl) | (simp [*, errW_none, errW_some] <;> rfl), by (with_reducible repeat (first | apply Kd.N_alloc | apply Kd.N_drewN | apply Kd.N_drew)); exact Kd.N_mono HO_6.out (fun _ hk => hk.1.1), by repeat (first | (with_reducible first | exact HB.out | apply below_alloc | apply pw_below_drewN | apply below_drew1) | exact HB.out)⟩
      ·rw [if_neg c18] at H
       have c18b0 : ((strOfNums t495).toList == (strOfNums l0).toList) = false := beq_eq_false_iff_ne.mpr c18
       have c18b1 : ((strOfNums t495).toList != (strOfNums l0).toList) = true := bne_iff_ne.mpr c18
       simp only [Option.some.injEq, Prod.mk.injEq] at H
       obtain ⟨rfl, rfl⟩ := H
       obtain ⟨Ao24, co24, eo24⟩ := Kd.N_slice HO_4.out
       subst eo24
       obtain ⟨Ao25, co25, eo25⟩ := Kd.N_slice HO_6.out
       subst eo25
       go_wp2_with (first | ((with_reducible refine gate_callee (f := 14) rfl ?_); refine goesL_ (some 40) rfl rfl Try.func14 (by kernel_rfl) rfl #[.slice Ao25 x6_1.length co25] rfl (by (try simp only [List.map_toArray, List.map_cons, List.map_nil]); first | done | rfl | (simp only [List.length_drop, List.length_take]; rfl)) ?_; (with_reducible refine (creelref16_Build.calls k1 _ _ x6_1 t495 t496 _ ?side1 ?side2 A16.out).mono ?_); (case side1 => repeat (first | exact (Kd.N_reads' HO_6.out).2.2 | (with_reducible refine Kd.C_alloc ?_ _) | (with_reducible refine Kd.C_drewN ?_ _) | (with_reducible refine Kd.C_drew ?_))); (case side2 => exact (Kd.N_reads' HO_6.out).2.1); rintro e w26 ⟨v497, rfl, ho0, hb⟩; refine ⟨_, rfl, ?_⟩; have n0_ := Aside0.mk (Kd.N_elder' (by (with_reducible repeat (first | apply Kd.N_alloc | apply Kd.N_drewN | apply Kd.N_drew)); exact HO_4.out) (Kd.R_base ho0) hb); have n1_ := Aside0.mk (Kd.N_elder' (by (with_reducible repeat (first | apply Kd.N_alloc | apply Kd.N_drewN | apply Kd.N_drew)); exact HO_6.out) (Kd.R_base ho0) hb); have n2_ := Aside0.mk (Kd.R_lower (Kd.R_newM (M := fun k_ => (w.heap.size ≤ k_)) ho0 (below_size (by repeat (first | (with_reducible first | exact HB.out | apply below_alloc | apply pw_below_drewN | apply below_drew1) | exact HB.out))) (fun k_ h_ => h_)) (below_size (by repeat (first | (with_reducible first | exact HB.out | apply below_alloc | apply pw_below_drewN | apply below_drew1) | exact HB.out)))); have n3_ := Aside0.mk (below_step (by repeat (first | (with_reducible first | exact HB.out | apply below_alloc | apply pw_below_drewN | apply below_drew1) | exact HB.out)) hb); clear HO_4; clear HO_6; clear HB; have HO_4 := n0_; have HO_6 := n1_; have HO498 := n2_; have HB := n3_; clear n0_ n1_ n2_ n3_; (try clear hb); (try clear hb2); (try clear hk); (try clear hi); (try clear ho0); (first | have hcv27 := own_string (P := Try.prog) Try.underlying26 Try.underlying5 Try.underlying9 (Kd.own_of_R HO498.out) | have hcv27 := Hand.V_string (P := Try.prog) Try.underlying26 Try.underlying5 Try.underlying9 HO498.out); have hcv28 := Kd.C_string (P := Try.prog) (A := A0) (c := c0) Try.underlying26 Try.underlying5 Try.underlying9 (Kd.C_below HR0.out HB.out)))
       go_ret2
       exact ⟨_, by first | rfl | (simp [errW_none, errW_some] <;> rfl) | (simp [*, errW_none, errW_some] <;> rfl), by first | exact Kd.S_nil _ _ _ _ _ | exact Kd.N_nil _ _ _ _ _ | exact Kd.V_nil _ _ _ _ _ | exact Kd.Q_nil _ _ _ _ _ | exact Kd.R_nil _ _ _ _ _, by repeat (first | (with_reducible first | exact HB.out | apply below_alloc | apply pw_below_drewN | apply below_drew1) | exact HB.out)⟩
     ·rw [if_neg c17] at H
      have c17b0 : (t496 == 0) = false := beq_eq_false_iff_ne.mpr c17
      have c17b1 : (t496 != 0) = true := bne_iff_ne.mpr c17
      simp only [Option.some.injEq, Prod.mk.injEq] at H
      obtain ⟨rfl, rfl⟩ := H
      obtain ⟨Ao29, co29, eo29⟩ := Kd.N_slice HO_4.out
      subst eo29
      obtain ⟨Ao30, co30, eo30⟩ := Kd.N_slice HO_6.out
      subst eo30
      go_wp2_with (first | ((with_reducible refine gate_callee (f := 14) rfl ?_); refine goesL_ (some 40) rfl rfl Try.func14 (by kernel_rfl) rfl #[.slice Ao30 x6_1.length co30] rfl (by (try simp only [List.map_toArray, List.map_cons, List.map_nil]); first | done | rfl | (simp only [List.length_drop, List.length_take]; rfl)) ?_; (with_reducible refine (creelref16_Build.calls k1 _ _ x6_1 t495 t496 _ ?side1 ?side2 A16.out).mono ?_); (case side1 => repeat (first | exact (Kd.N_reads' HO_6.out).2.2 | (with_reducible refine Kd.C_alloc ?_ _) | (with_reducible refine Kd.C_drewN ?_ _) | (with_reducible refine Kd.C_drew ?_))); (case side2 => exact (Kd.N_reads' HO_6.out).2.1); rintro e w31 ⟨v497, rfl, ho0, hb⟩; refine ⟨_, rfl, ?_⟩; have n0_ := Aside0.mk (Kd.N_elder' (by (with_reducible repeat (first | apply Kd.N_alloc | apply Kd.N_drewN | apply Kd.N_drew)); exact HO_4.out) (Kd.R_base ho0) hb); have n1_ := Aside0.mk (Kd.N_elder' (by (with_reducible repeat (first | apply Kd.N_alloc | apply Kd.N_drewN | apply Kd.N_drew)); exact HO_6.out) (Kd.R_base ho0) hb); have n2_ := Aside0.mk (Kd.R_lower (Kd.R_newM (M := fun k_ => (w.heap.size ≤ k_)) ho0 (below_size (by repeat (first | (with_reducible first | exact HB.out | apply below_alloc | apply pw_below_drewN | apply below_drew1) | exact HB.out))) (fun k_ h_ => h_)) (below_size (by repeat (first | (with_reducible first | exact HB.out | apply below_alloc | apply pw_below_drewN | apply below_drew1) | exact HB.out)))); have n3_ := Aside0.mk (below_step (by repeat (first | (with_reducible first | exact HB.out | apply below_alloc | apply pw_below_drewN | apply below_drew1) | exact HB.out)) hb); clear HO_4; clear HO_6; clear HB; have HO_4 := n0_; have HO_6 := n1_; have HO498 := n2_; have HB := n3_; clear n0_ n1_ n2_ n3_; (try clear hb); (try clear hb2); (try clear hk); (try clear hi); (try clear ho0)))
      go_ret2
      exact ⟨_, by first | rfl | (simp [errW_none, errW_some] <;> rfl) | (simp [*, errW_none, errW_some] <;> rfl), by first | exact Kd.S_nil _ _ _ _ _ | exact Kd.N_nil _ _ _ _ _ | exact Kd.V_nil _ _ _ _ _ | exact Kd.Q_nil _ _ _ _ _ | exact Kd.R_nil _ _ _ _ _, by repeat (first | (with_reducible first | exact HB.out | apply below_alloc | apply pw_below_drewN | apply below_drew1) | exact HB.out)⟩
 ·rw [if_neg c3] at H
  have c3b0 : (t484 == 0) = false := beq_eq_false_iff_ne.mpr c3
  have c3b1 : (t484 != 0) = true := bne_iff_ne.mpr c3
  simp only [Option.some.injEq, Prod.mk.injEq] at H
  obtain ⟨rfl, rfl⟩ := H
  go_enter Try.func16, Try.ntmps16
  go_wp2_with (first | ((with_reducible refine gate_callee (f := 33) rfl ?_); refine goesL_ (some 14) rfl rfl Try.func33 (by kernel_rfl) rfl #[.slice A0 l0.length c0] rfl (by (try simp only [List.map_toArray, List.map_cons, List.map_nil]); first | done | rfl | (simp only [List.length_drop, List.length_take]; rfl)) ?_; (with_reducible refine (creelref03_Only.calls k _ _ l0 t483 t484 _ ?side1 ?side2 A2.out).mono ?_); (case side1 => repeat (first | exact HR0.out | (with_reducible refine Kd.C_alloc ?_ _) | (with_reducible refine Kd.C_drewN ?_ _) | (with_reducible refine Kd.C_drew ?_))); (case side2 => exact HC0.out); rintro e w32 ⟨v485, rfl, ho0, hb⟩; refine ⟨_, rfl, ?_⟩; have n0_ := Aside0.mk (Kd.N_lower (Kd.N_mono (ok' := fun k_ => (w.heap.size ≤ k_)) (Kd.S_N (Kd.S_bound ho0)) (fun k_ hk_ => (Nat.le_trans (below_size (by repeat (first | (with_reducible first | exact HB.out | apply below_alloc | apply pw_below_drewN | apply below_drew1) | exact HB.out))) hk_.2.1))) (below_size (by repeat (first | (with_reducible first | exact HB.out | apply below_alloc | apply pw_below_drewN | apply below_drew1) | exact HB.out)))); have n1_ := Aside0.mk (below_step (by repeat (first | (with_reducible first | exact HB.out | apply below_alloc | apply pw_below_drewN | apply below_drew1) | exact HB.out)) hb); clear HB; have HO486 := n0_; have HB := n1_; clear n0_ n1_; (try clear hb); (try clear hb2); (try clear hk); (try clear hi); (try clear ho0)))
  go_ret2
  exact ⟨_, by first | rfl | (simp [errW_none, errW_some] <;> rfl) | (simp [*, errW_none, errW_some] <;> rfl), by first | exact Kd.S_nil _ _ _ _ _ | exact Kd.N_nil _ _ _ _ _ | exact Kd.V_nil _ _ _ _ _ | exact Kd.Q_nil _ _ _ _ _ | exact Kd.R_nil _ _ _ _ _, by repeat (first | (with_reducible first | exact HB.out | apply below_alloc | apply pw_below_drewN | apply below_drew1) | exact HB.out)⟩

/-! ### creelref16_Id: function 19 -/
def creelref16_Id.l0 : Nat → List (List Int) → List Int → Int → Option (Int × Bool)
 | 0, _, _, _ => none
 | k + 1, x0, x1, x6 => if x6 < (x0.length : Int) then (if 0 ≤ x6 then (if (strOfNums (rd_L1 x0 x6)).toList = (strOfNums x1).toList then (some (x6, true)) else (creelref16_Id.l0 k x0 x1 (wrap64 (x6 + 1)))) else (none)) else (some (0, false))
def creelref16_Id.f (k : Nat) (l0 : List (List Int)) (l1 : List Int) : Option (Int × Bool) := creelref16_Id.l0 k l0 l1 0
set_option maxHeartbeats 8000000 in
set_option maxRecDepth 100000 in
theorem creelref16_Id.calls (k : Nat) (A0 : Option Addr) (c0 : Nat) (l0 : List (List Int)) (A1 : Option Addr) (c1 : Nat) (l1 : List Int) (r1 : Int) (r2 : Bool) (w : World) (hr0 : Kd.C (Kd.slice 5 (Kd.int .u8)) w A0 l0.length l0) (hc0 : l0.length ≤ c0) (hr1 : Kd.C (Kd.int .u8) w A1 l1.length l1) (hc1 : l1.length ≤ c1) (h : creelref16_Id.f k l0 l1 = some (r1, r2)) :
  Calls Try.prog 19 #[.slice A0 l0.length c0, .slice A1 l1.length c1] w fun e w' => e = .returned (.tuple #[.int .i64 r1, .bool r2]) ∧ Drawn0 w w' := by
 have HR0 := Aside0.mk hr0
 have HC0 := Aside0.mk hc0
 clear hr0 hc0
 have HR1 := Aside0.mk hr1
 have HC1 := Aside0.mk hc1
 clear hr1 hc1
 have H : (creelref16_Id.l0 k l0 l1 0) = some (r1, r2) := h
 clear h
 have H' := Aside0.mk H
 clear H
 go_enter Try.func19, Try.ntmps19
 go_wp2
 repeat (go_quiet (fail); try go_wp2)
 go_loopg [6] k (fun kq v6 w' => ∃ (x6_1 : Int), v6 = .int .i64 x6_1 ∧ Aside0 (creelref16_Id.l0 kq l0 l1 x6_1 = some (r1, r2)) ∧ Aside0 (kq ≤ k) ∧ Drawn0 w w')
 case atStart => exact ⟨(0), (by first | rfl | (simp; done) | (simp [*]; done)), H', ⟨Nat.le_refl _⟩, by repeat (first | exact Drawn0.refl _ | apply Drawn0.step)⟩
 case round =>
  clear H'
  try clear c1
  try clear p2
  obtain ⟨x6_1, rfl, HA, HK1, ⟨m1, rfl⟩⟩ := hrel
  cases gk with
  | zero => exact absurd HA.out (by simp [creelref16_Id.l0])
  | succ k1 =>
   have H := HA.out
   clear HA
   simp only [creelref16_Id.l0] at H
   by_cases c3 : x6_1 < (l0.length : Int)
   ·rw [if_pos c3] at H
    have c3b0 : decide (x6_1 < (l0.length : Int)) = true := decide_eq_true c3
    clear c3
    by_cases c4 : 0 ≤ x6_1
    ·rw [if_pos c4] at H
     have c4b0 : decide (0 ≤ x6_1) = true := decide_eq_true c4
     clear c4
     by_cases c5 : (strOfNums (rd_L1 l0 x6_1)).toList = (strOfNums l1).toList
     ·rw [if_pos c5] at H
      have c5b0 : ((strOfNums (rd_L1 l0 x6_1)).toList == (strOfNums l1).toList) = true := beq_iff_eq.mpr c5
      have c5b1 : ((strOfNums (rd_L1 l0 x6_1)).toList != (strOfNums l1).toList) = false := bne_eq_false_iff_eq.mpr c5
      clear c5
      simp only [Option.some.injEq, Prod.mk.injEq] at H
      obtain ⟨rfl, rfl⟩ := H
      have p499 : 0 ≤ (x6_1 : Int) := of_decide_eq_true (by first | (with_reducible assumption) | assumption)
      have q499 : x6_1 < (l0.length : Int) := of_decide_eq_true (by first | (with_reducible assumption) | assumption)
      obtain ⟨ad499, A499_0, c499_0, e499, hx499_0, hl499_0, hi499_0⟩ := at_L1 HR0.out x6_1 p499 q499
      cases e499
      have HR499_0 := Aside0.mk hi499_0
      have HC499_0 := Aside0.mk hl499_0
      clear hi499_0 hl499_0
      replace p499 := eq_true p499
      replace q499 := eq_true q499
      have hcv6 := Kd.C_string (P := Try.prog) (A := A499_0) (c := c499_0) Try.underlying26 Try.underlying5 Try.underlying9 HR499_0.out
      have hcv6d := fun n_ : Nat => Kd.C_string (P := Try.prog) (A := A499_0) (c := c499_0) Try.underlying26 Try.underlying5 Try.underlying9 (Kd.C_drewN HR499_0.out n_)
      have hcv6e := fun n_ m_ : Nat => Kd.C_string (P := Try.prog) (A := A499_0) (c := c499_0) Try.underlying26 Try.underlying5 Try.underlying9 (Kd.C_drewN (Kd.C_drewN HR499_0.out n_) m_)
      have hcv7 := Kd.C_string (P := Try.prog) (A := A1) (c := c1) Try.underlying26 Try.underlying5 Try.underlying9 HR1.out
      have hcv7d := fun n_ : Nat => Kd.C_string (P := Try.prog) (A := A1) (c := c1) Try.underlying26 Try.underlying5 Try.underlying9 (Kd.C_drewN HR1.out n_)
      have hcv7e := fun n_ m_ : Nat => Kd.C_string (P := Try.prog) (A := A1) (c := c1) Try.underlying26 Try.underlying5 Try.underlying9 (Kd.C_drewN (Kd.C_drewN HR1.out n_) m_)
      go_wp2
      repeat (go_quiet (fail); try go_wp2)
      go_ret2
      exact ⟨by first | rfl | (simp; done) | (simp [*]; done), by repeat (first | exact Drawn0.refl _ | apply Drawn0.step)⟩
     ·rw [if_neg c5] at H
      have c5b0 : ((strOfNums (rd_L1 l0 x6_1)).toList == (strOfNums l1).toList) = false := beq_eq_false_iff_ne.mpr c5
      have c5b1 : ((strOfNums (rd_L1 l0 x6_1)).toList != (strOfNums l1).toList) = true := bne_iff_ne.mpr c5
      have H' := Aside0.mk H
      clear H
      have p499 : 0 ≤ (x6_1 : Int) := of_decide_eq_true (by first | (with_reducible assumption) | assumption)
      have q499 : x6_1 < (l0.length : Int) := of_decide_eq_true (by first | (with_reducible assumption) | assumption)
      obtain ⟨ad499, A499_0, c499_0, e499, hx499_0, hl499_0, hi499_0⟩ := at_L1 HR0.out x6_1 p499 q499
      cases e499
      have HR499_0 := Aside0.mk hi499_0
      have HC499_0 := Aside0.mk hl499_0
      clear hi499_0 hl499_0
      replace p499 := eq_true p499
      replace q499 := eq_true q499
      have hcv8 := Kd.C_string (P := Try.prog) (A := A499_0) (c := c499_0) Try.underlying26 Try.underlying5 Try.underlying9 HR499_0.out
      have hcv8d := fun n_ : Nat => Kd.C_string (P := Try.prog) (A := A499_0) (c := c499_0) Try.underlying26 Try.underlying5 Try.underlying9 (Kd.C_drewN HR499_0.out n_)
      have hcv8e := fun n_ m_ : Nat => Kd.C_string (P := Try.prog) (A := A499_0) (c := c499_0) Try.underlying26 Try.underlying5 Try.underlying9 (Kd.C_drewN (Kd.C_drewN HR499_0.out n_) m_)
      have hcv9 := Kd.C_string (P := Try.prog) (A := A1) (c := c1) Try.underlying26 Try.underlying5 Try.underlying9 HR1.out
      have hcv9d := fun n_ : Nat => Kd.C_string (P := Try.prog) (A := A1) (c := c1) Try.underlying26 Try.underlying5 Try.underlying9 (Kd.C_drewN HR1.out n_)
      have hcv9e := fun n_ m_ : Nat => Kd.C_string (P := Try.prog) (A := A1) (c := c1) Try.underlying26 Try.underlying5 Try.underlying9 (Kd.C_drewN (Kd.C_drewN HR1.out n_) m_)
      go_wp2
      repeat (go_quiet (fail); try go_wp2)
      go_roundg k1
      case measure => have := HK1.out; omega
      case rel => exact ⟨(wrap64 (x6_1 + 1)), (by first | rfl | (simp; done) | (simp [*]; done)), H', ⟨by have := HK1.out; omega⟩, by repeat (first | exact Drawn0.refl _ | apply Drawn0.step)⟩
    ·rw [if_neg c4] at H
     exact absurd H (by simp)
   ·rw [if_neg c3] at H
    have c3b0 : decide (x6_1 < (l0.length : Int)) = false := decide_eq_false c3
    clear c3
    simp only [Option.some.injEq, Prod.mk.injEq] at H
    obtain ⟨rfl, rfl⟩ := H
    go_wp2
    repeat (go_quiet (fail); try go_wp2)
    go_ret2
    exact ⟨by first | rfl | (simp; done) | (simp [*]; done), by repeat (first | exact Drawn0.refl _ | apply Drawn0.step)⟩

end Go.Proofs.Ytaiechbdcddalaa.Print
