/- Words of the print, of which only those stand here that this claim names. -/
-- Written by a program of this session (wip/cprint.py), which calls the kit's print and adds contracts proved by hand.
import Derived.Test.YtaiechbdcddalaaPrint0
import Derived.Test.YtaiechbdcddalaaPrint1
namespace Go.Proofs.Ytaiechbdcddalaa.Print
open Go.RowKit Go.Proofs.YtaiechbdcddalaaW.PrintWords Go.Proofs.YtaiechbdcddalaaW.PrintLast Go.Proofs.YtaiechbdcddalaaW.PrintMore
attribute [local go_sem] max2_int min2_int max_two min_two max_three min_three max_four min_four   -- for this text's walks alone
set_option linter.unusedVariables false
set_option linter.unusedSimpArgs false

/-! ### words_Put: function 40 -/
mutual
def words_Put.j0 : Nat → List (List Int) → Bool → Option (List Int × Int)
 | 0, _, _ => none
 | k + 1, x0, x16 => if x16 = true then (some (([] : List Int), 1)) else ((vary_Put.f k ([] : List Int) (IntKind.u64.wrap ((x0.length : Int)))).bind fun t120 => (words_Put.l0 k t120 ([] : List Int) x0 (x0.length : Int) 0))
def words_Put.l0 : Nat → List Int → List Int → List (List Int) → Int → Int → Option (List Int × Int)
 | 0, _, _, _, _, _ => none
 | k + 1, x4, x5, x21, x22, x23 => if x23 < x22 then (if 0 ≤ x23 then (if x23 < (x21.length : Int) then ((words_follows.f x5 (rd_L1 x21 x23)).bind fun t124 => (if t124 = true then ((words_Shared.f k x5 (rd_L1 x21 x23)).bind fun t125 => ((vary_Put.f k x4 (IntKind.u64.wrap (t125))).bind fun t126 => ((vary_Put.f k t126 (IntKind.u64.wrap (wrap64 (((rd_L1 x21 x23).length : Int) - t125)))).bind fun t129 => (if 0 ≤ t125 then (if t125 ≤ ((rd_L1 x21 x23).length : Int) then ((some ((rd_L1 x21 x23).drop (t125 : Int).toNat : List Int)).bind fun y132 => (if t129.length + y132.length < 140737488355328 then (words_Put.l0 k (t129 ++ y132) (rd_L1 x21 x23) x21 x22 (wrap64 (x23 + 1))) else (none))) else (none)) else (none))))) else (some (([] : List Int), 1)))) else (none)) else (none)) else (some (x4, 0))
end
def words_Put.f (k : Nat) (l0 : List (List Int)) : Option (List Int × Int) := if (l0.length : Int) < 1 then (words_Put.j0 k l0 true) else (words_Put.j0 k l0 (decide ((l0.length : Int) > 16)))
def words_Put.T11 : Bool × List (List Nat × List Nat) := (true, [([], []), ([], []), ([1], [1]), ([0, 2], [0, 2]), ([], []), ([4], [4]), ([], []), ([5, 6], [5, 6]), ([7], [7]), ([3, 8, 3], [3, 8]), ([], []), ([], []), ([10, 11], [10, 11]), ([9, 12, 9], [9, 12]), ([13, 13, 0, 1, 2, 3, 4, 5, 6, 7, 8, 9, 10, 11, 12, 13], [0, 13])])
def words_Put.B11 : List Nat := [0, 0, 2, 7, 0, 16, 0, 112, 240, 511, 0, 0, 3072, 8191, 16383]
theorem words_Put.tab11 : rtab .any (opsOf Try.f40 11) = words_Put.T11 := by kernel_rfl
theorem words_Put.bits11 : waitsOk words_Put.T11.2 words_Put.B11 = true := by kernel_rfl
set_option maxHeartbeats 8000000 in
set_option maxRecDepth 100000 in
theorem words_Put.calls (k : Nat) (P0_ : Nat → Prop) (A0 : Option Addr) (c0 : Nat) (l0 : List (List Int)) (r1 : List Int) (r2 : Int) (w : World) (hs0 : Kd.V (Kd.slice 5 (Kd.int .u8)) 26 w w.heap.size (fun k_ => P0_ k_) (.slice A0 l0.length c0) l0) (h : words_Put.f k l0 = some (r1, r2)) :
  Calls Try.prog 40 #[.slice A0 l0.length c0] w fun e w' => ∃ v0_ : Value, e = .returned (.tuple #[v0_, .int .i64 r2]) ∧ Kd.R (Kd.int .u8) 5 w' w.heap.size (fun k_ => (w.heap.size ≤ k_)) v0_ r1 ∧ Below w.heap.size w w' := by
 have HO0 := Aside0.mk (show Kd.V (Kd.slice 5 (Kd.int .u8)) 26 w w.heap.size (fun k_ => (P0_ k_ ∨ w.heap.size ≤ k_)) (.slice A0 l0.length c0) l0 from Kd.V_mono hs0 (fun k_ hk => .inl hk))
 have HB := Aside0.mk (Below.refl w.heap.size w)
 have H : (if (l0.length : Int) < 1 then (words_Put.j0 k l0 true) else (words_Put.j0 k l0 (decide ((l0.length : Int) > 16)))) = some (r1, r2) := h
 clear h
 have HC2 := Aside0.mk H
 clear H
 go_enter Try.func40, Try.ntmps40
 go_upto_region 1 with (fail)
 go_cut [16] (fun v16 wc => ∃ (kq : Nat) (x16_1 : Bool), v16 = .bool x16_1 ∧ Aside0 (words_Put.j0 kq l0 x16_1 = some (r1, r2)) ∧ Aside0 (kq ≤ k) ∧ Aside0 (Kd.V (Kd.slice 5 (Kd.int .u8)) 26 wc w.heap.size (fun k_ => (P0_ k_ ∨ w.heap.size ≤ k_)) (.slice A0 l0.length c0) l0) ∧ Aside0 (Below w.heap.size w wc))
 case first =>
  have H := HC2.out
  clear HC2
  by_cases c3 : (l0.length : Int) < 1
  ·rw [if_pos c3] at H
   have c3b0 : decide ((l0.length : Int) < 1) = true := decide_eq_true c3
   have c3b1 : decide (l0.length < 1) = true := decide_eq_true (by omega)
   clear c3
   (first | rw [c3b0] | (simp only [i64_w, i32_w]; rw [c3b0]) | skip)
   have H' := Aside0.mk H
   clear H
   go_wp2
   go_meet
   case rel => exact ⟨_, (true), (by first | rfl | (simp; done) | (simp [*]; done)), H', ⟨by first | omega | exact Nat.le_refl _⟩, ⟨by (with_reducible repeat (first | apply Kd.V_alloc | apply Kd.V_drewN | apply Kd.V_drew)); exact HO0.out⟩, ⟨by repeat (first | (with_reducible first | exact HB.out | apply below_alloc | apply pw_below_drewN | apply below_drew1) | exact HB.out)⟩⟩
  ·rw [if_neg c3] at H
   have c3b0 : decide ((l0.length : Int) < 1) = false := decide_eq_false c3
   have c3b1 : decide (l0.length < 1) = false := decide_eq_false (by omega)
   clear c3
   (first | rw [c3b0] | (simp only [i64_w, i32_w]; rw [c3b0]) | skip)
   have H' := Aside0.mk H
   clear H
   go_wp2
   go_meet
   case rel => exact ⟨_, (decide ((l0.length : Int) > 16)), (by first | rfl | (simp; done) | (simp [*]; done)), H', ⟨by first | omega | exact Nat.le_refl _⟩, ⟨by (with_reducible repeat (first | apply Kd.V_alloc | apply Kd.V_drewN | apply Kd.V_drew)); exact HO0.out⟩, ⟨by repeat (first | (with_reducible first | exact HB.out | apply below_alloc | apply pw_below_drewN | apply below_drew1) | exact HB.out)⟩⟩
 case rest =>
  clear HC2
  try clear p2
  try clear c3
  try clear c3b0
  try clear c3b1
  obtain ⟨kq, x16_1, rfl, HA, HJ1, HO_0, HB⟩ := hcut
  cases kq with
  | zero => exact absurd HA.out (by simp [words_Put.j0])
  | succ kj1 =>
   have H := HA.out
   clear HA
   simp only [words_Put.j0] at H
   by_cases c4 : x16_1 = true
   ·subst c4
    have H1 : (some (([] : List Int), 1)) = some (r1, r2) := by rw [if_pos rfl] at H; exact H
    clear H
    have H := H1
    clear H1
    simp only [Option.some.injEq, Prod.mk.injEq] at H
    obtain ⟨rfl, rfl⟩ := H
    go_wp2
    go_ret2
    exact ⟨_, by first | rfl | (simp [errW_none, errW_some] <;> rfl) | (simp [*, errW_none, errW_some] <;> rfl), by first | exact Kd.R_nil _ _ _ _ _ | exact Kd.N_nil _ _ _ _ _ | exact Kd.V_nil _ _ _ _ _ | exact Kd.Q_nil _ _ _ _ _ | exact Kd.S_nil _ _ _ _ _, by repeat (first | (with_reducible first | exact HB.out | apply below_alloc | apply pw_below_drewN | apply below_drew1) | exact HB.out)⟩
   ·replace c4 := Bool.eq_false_iff.mpr c4
    subst c4
    have H1 : ((vary_Put.f kj1 ([] : List Int) (IntKind.u64.wrap ((l0.length : Int)))).bind fun t120 => (words_Put.l0 kj1 t120 ([] : List Int) l0 (l0.length : Int) 0)) = some (r1, r2) := by rw [if_neg (show ¬ (false = true) by decide)] at H; exact H
    clear H
    have H := H1
    clear H1
    replace H := Option.bind_eq_some_iff.mp H
    obtain ⟨t120, A50, H⟩ := H
    replace H : (words_Put.l0 kj1 t120 ([] : List Int) l0 (l0.length : Int) 0) = some (r1, r2) := H
    have A5 := Aside0.mk A50
    clear A50
    have H' := Aside0.mk H
    clear H
    go_wp2_with (first | ((with_reducible refine gate_callee (f := 55) rfl ?_); refine goesL_ (some 20) rfl rfl Try.func55 (by kernel_rfl) rfl #[.slice none 0 0, .int .u64 (IntKind.u64.wrap ((l0.length : Int)))] rfl (by (try simp only [List.map_toArray, List.map_cons, List.map_nil]); first | done | rfl | (simp only [List.length_drop, List.length_take]; rfl)) ?_; (refine (vary_Put.calls kj1 _ _ ([] : List Int) (IntKind.u64.wrap ((l0.length : Int))) t120 _ ?side1 ?side2 A5.out).mono ?_); (case side1 => exact Kd.C_nil _ _); (case side2 => exact Nat.le_refl _); rintro e w6 ⟨v121, rfl, ho0, hb⟩; refine ⟨_, rfl, ?_⟩; have n0_ := Aside0.mk (Kd.V_elder' (by (with_reducible repeat (first | apply Kd.V_alloc | apply Kd.V_drewN | apply Kd.V_drew)); exact HO_0.out) (Kd.R_base ho0) hb); have n1_ := Aside0.mk (Kd.R_lower (Kd.R_newM (M := fun k_ => (w.heap.size ≤ k_)) ho0 (below_size (by repeat (first | (with_reducible first | exact HB.out | apply below_alloc | apply pw_below_drewN | apply below_drew1) | exact HB.out))) (fun k_ h_ => h_)) (below_size (by repeat (first | (with_reducible first | exact HB.out | apply below_alloc | apply pw_below_drewN | apply below_drew1) | exact HB.out)))); have n2_ := Aside0.mk (below_step (by repeat (first | (with_reducible first | exact HB.out | apply below_alloc | apply pw_below_drewN | apply below_drew1) | exact HB.out)) hb); clear HO_0; clear HB; have HO_0 := n0_; have HO122 := n1_; have HB := n2_; clear n0_ n1_ n2_; (try clear hb); (try clear hb2); (try clear hk); (try clear hi); (try clear ho0)))
    go_loopg [4, 5, 23] kj1 (fun kq v4 v5 v23 w' => ∃ (x4_2 : List Int) (x5_2 : List Int) (x23_2 : Int), v23 = .int .i64 x23_2 ∧ Aside0 (words_Put.l0 kq x4_2 x5_2 l0 (l0.length : Int) x23_2 = some (r1, r2)) ∧ Aside0 (kq ≤ kj1) ∧ Aside0 (Kd.R (Kd.int .u8) 5 w' w.heap.size (fun k_ => (w.heap.size ≤ k_)) v4 x4_2) ∧ Aside0 (Kd.V (Kd.int .u8) 5 w' w.heap.size (fun k_ => (P0_ k_ ∨ w.heap.size ≤ k_) ∧ some k_ ≠ (v4 : Value).ownBlock) v5 x5_2) ∧ Aside0 (Kd.V (Kd.slice 5 (Kd.int .u8)) 26 w' w.heap.size (fun k_ => (P0_ k_ ∨ w.heap.size ≤ k_) ∧ some k_ ≠ (v4 : Value).ownBlock) (.slice A0 l0.length c0) l0) ∧ Aside0 (Below w.heap.size w w'))
    case atStart => exact ⟨(t120), (([] : List Int)), (0), (by first | rfl | (simp; done) | (simp [*]; done)), H', ⟨Nat.le_refl _⟩, ⟨by (with_reducible repeat (first | apply Kd.R_alloc | apply Kd.R_drewN | apply Kd.R_drew)); exact Kd.R_mono HO122.out (fun _ hk => hk.1)⟩, ⟨(by first | exact Kd.V_nil _ _ _ _ _ | exact Kd.V_mono (Kd.R_V (by first | exact Kd.R_nil _ _ _ _ _ | exact Kd.N_nil _ _ _ _ _ | exact Kd.V_nil _ _ _ _ _ | exact Kd.Q_nil _ _ _ _ _ | exact Kd.S_nil _ _ _ _ _)) (fun k_ hk => by first | exact ⟨(.inr (hk.1)), hk.2⟩ | exact (.inr (hk))))⟩, ⟨by (with_reducible repeat (first | apply Kd.V_alloc | apply Kd.V_drewN | apply Kd.V_drew)); exact HO_0.out⟩, ⟨by repeat (first | (with_reducible first | exact HB.out | apply below_alloc | apply pw_below_drewN | apply below_drew1) | exact HB.out)⟩⟩
    case round =>
     clear H'
     try clear p2
     try clear c3
     try clear c3b0
     try clear c3b1
     try clear c4
     try clear c5
     try clear p2
     obtain ⟨x4_2, x5_2, x23_2, rfl, HA, HK2, HO_4, HO_5, HO_21, HB⟩ := hrel
     cases gk with
     | zero => exact absurd HA.out (by simp [words_Put.l0])
     | succ k2 =>
      have H := HA.out
      clear HA
      simp only [words_Put.l0] at H
      by_cases c7 : x23_2 < (l0.length : Int)
      ·rw [if_pos c7] at H
       have c7b0 : decide (x23_2 < (l0.length : Int)) = true := decide_eq_true c7
       clear c7
       by_cases c8 : 0 ≤ x23_2
       ·rw [if_pos c8] at H
        have c8b0 : decide (0 ≤ x23_2) = true := decide_eq_true c8
        clear c8
        by_cases c9 : x23_2 < (l0.length : Int)
        ·rw [if_pos c9] at H
         have c9b0 : decide (x23_2 < (l0.length : Int)) = true := decide_eq_true c9
         clear c9
         replace H := Option.bind_eq_some_iff.mp H
         obtain ⟨t124, A100, H⟩ := H
         replace H : (if t124 = true then ((words_Shared.f k2 x5_2 (rd_L1 l0 x23_2)).bind fun t125 => ((vary_Put.f k2 x4_2 (IntKind.u64.wrap (t125))).bind fun t126 => ((vary_Put.f k2 t126 (IntKind.u64.wrap (wrap64 (((rd_L1 l0 x23_2).length : Int) - t125)))).bind fun t129 => (if 0 ≤ t125 then (if t125 ≤ ((rd_L1 l0 x23_2).length : Int) then ((some ((rd_L1 l0 x23_2).drop (t125 : Int).toNat : List Int)).bind fun y132 => (if t129.length + y132.length < 140737488355328 then (words_Put.l0 k2 (t129 ++ y132) (rd_L1 l0 x23_2) l0 (l0.length : Int) (wrap64 (x23_2 + 1))) else (none))) else (none)) else (none))))) else (some (([] : List Int), 1))) = some (r1, r2) := H
         have A10 := Aside0.mk A100
         clear A100
         by_cases c11 : t124 = true
         ·subst c11
          have H1 : ((words_Shared.f k2 x5_2 (rd_L1 l0 x23_2)).bind fun t125 => ((vary_Put.f k2 x4_2 (IntKind.u64.wrap (t125))).bind fun t126 => ((vary_Put.f k2 t126 (IntKind.u64.wrap (wrap64 (((rd_L1 l0 x23_2).length : Int) - t125)))).bind fun t129 => (if 0 ≤ t125 then (if t125 ≤ ((rd_L1 l0 x23_2).length : Int) then ((some ((rd_L1 l0 x23_2).drop (t125 : Int).toNat : List Int)).bind fun y132 => (if t129.length + y132.length < 140737488355328 then (words_Put.l0 k2 (t129 ++ y132) (rd_L1 l0 x23_2) l0 (l0.length : Int) (wrap64 (x23_2 + 1))) else (none))) else (none)) else (none))))) = some (r1, r2) := by rw [if_pos rfl] at H; exact H
          clear H
          have H := H1
          clear H1
          replace H := Option.bind_eq_some_iff.mp H
          obtain ⟨t125, A120, H⟩ := H
          replace H : ((vary_Put.f k2 x4_2 (IntKind.u64.wrap (t125))).bind fun t126 => ((vary_Put.f k2 t126 (IntKind.u64.wrap (wrap64 (((rd_L1 l0 x23_2).length : Int) - t125)))).bind fun t129 => (if 0 ≤ t125 then (if t125 ≤ ((rd_L1 l0 x23_2).length : Int) then ((some ((rd_L1 l0 x23_2).drop (t125 : Int).toNat : List Int)).bind fun y132 => (if t129.length + y132.length < 140737488355328 then (words_Put.l0 k2 (t129 ++ y132) (rd_L1 l0 x23_2) l0 (l0.length : Int) (wrap64 (x23_2 + 1))) else (none))) else (none)) else (none)))) = some (r1, r2) := H
          have A12 := Aside0.mk A120
          clear A120
          replace H := Option.bind_eq_some_iff.mp H
          obtain ⟨t126, A130, H⟩ := H
          replace H : ((vary_Put.f k2 t126 (IntKind.u64.wrap (wrap64 (((rd_L1 l0 x23_2).length : Int) - t125)))).bind fun t129 => (if 0 ≤ t125 then (if t125 ≤ ((rd_L1 l0 x23_2).length : Int) then ((some ((rd_L1 l0 x23_2).drop (t125 : Int).toNat : List Int)).bind fun y132 => (if t129.length + y132.length < 140737488355328 then (words_Put.l0 k2 (t129 ++ y132) (rd_L1 l0 x23_2) l0 (l0.length : Int) (wrap64 (x23_2 + 1))) else (none))) else (none)) else (none))) = some (r1, r2) := H
          have A13 := Aside0.mk A130
          clear A130
          replace H := Option.bind_eq_some_iff.mp H
          obtain ⟨t129, A140, H⟩ := H
          replace H : (if 0 ≤ t125 then (if t125 ≤ ((rd_L1 l0 x23_2).length : Int) then ((some ((rd_L1 l0 x23_2).drop (t125 : Int).toNat : List Int)).bind fun y132 => (if t129.length + y132.length < 140737488355328 then (words_Put.l0 k2 (t129 ++ y132) (rd_L1 l0 x23_2) l0 (l0.length : Int) (wrap64 (x23_2 + 1))) else (none))) else (none)) else (none)) = some (r1, r2) := H
          have A14 := Aside0.mk A140
          clear A140
          by_cases c15 : 0 ≤ t125
          ·rw [if_pos c15] at H
           have c15b0 := eq_true c15
           have c15b1 : decide (0 ≤ t125) = true := decide_eq_true c15
           clear c15
           by_cases c16 : t125 ≤ ((rd_L1 l0 x23_2).length : Int)
           ·rw [if_pos c16] at H
            have c16b0 := eq_true c16
            have c16b1 : decide (t125 ≤ ((rd_L1 l0 x23_2).length : Int)) = true := decide_eq_true c16
            clear c16
            obtain ⟨y132, hy132⟩ : ∃ y_ : List Int, y_ = ((rd_L1 l0 x23_2).drop (t125 : Int).toNat) := ⟨_, rfl⟩
            replace H : (if t129.length + y132.length < 140737488355328 then (words_Put.l0 k2 (t129 ++ y132) (rd_L1 l0 x23_2) l0 (l0.length : Int) (wrap64 (x23_2 + 1))) else (none)) = some (r1, r2) := by first | (rw [hy132]; with_reducible exact H) | (have H2_ := (Option.bind_some _ _).symm.trans H; rw [hy132]; with_reducible exact H2_) | (have H2_ := (Option.bind_some _ _).symm.trans H; with_reducible exact H2_) | with_reducible exact H | (rw [hy132]; exact H) | exact H
            have Ny132 := Aside0.mk hy132
            clear hy132
            by_cases c17 : t129.length + y132.length < 140737488355328
            ·rw [if_pos c17] at H
             have LMc17 := Aside0.mk c17
             clear c17
             obtain ⟨y137, hy137⟩ : ∃ y_ : List Int, y_ = (t129 ++ y132) := ⟨_, rfl⟩
             replace H : (words_Put.l0 k2 y137 (rd_L1 l0 x23_2) l0 (l0.length : Int) (wrap64 (x23_2 + 1))) = some (r1, r2) := by first | (rw [hy137]; with_reducible exact H) | (have H2_ := (Option.bind_some _ _).symm.trans H; rw [hy137]; with_reducible exact H2_) | (have H2_ := (Option.bind_some _ _).symm.trans H; with_reducible exact H2_) | with_reducible exact H | (rw [hy137]; exact H) | exact H
             have Ny137 := Aside0.mk hy137
             clear hy137
             have H' := Aside0.mk H
             clear H
             have p123 : 0 ≤ (x23_2 : Int) := of_decide_eq_true (by first | (with_reducible assumption) | assumption)
             have q123 : x23_2 < (l0.length : Int) := of_decide_eq_true (by first | (with_reducible assumption) | assumption)
             obtain ⟨ad123, A123_0, c123_0, e123, hx123_0, hl123_0, hi123_0⟩ := at_L1 (Kd.V_reads' HO_21.out).2.2 x23_2 p123 q123
             cases e123
             obtain ⟨ce123, hce123, hMe123, hcc123⟩ := Kd.V_get HO_21.out [] x23_2 p123 (by first | exact q123 | exact of_decide_eq_true (by first | (with_reducible assumption) | assumption) | (have e_ := (Kd.V_reads' HO_21.out).1; omega))
             obtain ⟨ua123_0, uc123_0, rfl, ul123_0, ge123_0⟩ := Kd.FK_slice_open hMe123
             have hv123_0 := hcc123 0 _ rfl
             rw [Nat.add_zero, show ((Kd.slice 5 (Kd.int .u8))).sz = 1 from rfl, Nat.mul_one] at hv123_0
             replace hv123_0 := Option.some.inj (hv123_0.symm.trans hx123_0)
             injection hv123_0 with hva_ hvn_ hvc_
             rw [hva_] at ge123_0
             rw [hvc_] at ul123_0
             have HL123_0 := Aside0.mk (show Kd.V (Kd.int .u8) 5 _ w.heap.size _ _ (rd_L1 l0 x23_2) from Kd.V_mk ul123_0 ge123_0)
             clear hva_ hvn_ hvc_ ge123_0 ul123_0
             clear hcc123 hce123
             have HR123_0 := Aside0.mk hi123_0
             have HC123_0 := Aside0.mk hl123_0
             clear hi123_0 hl123_0
             replace p123 := eq_true p123
             replace q123 := eq_true q123
             obtain ⟨Ao18, co18, eo18⟩ := Kd.V_slice HO_5.out
             subst eo18
             try go_wp2_with (first | ((with_reducible refine gate_callee (f := 56) rfl ?_); refine goesL_ (some 29) rfl rfl Try.func56 (by kernel_rfl) rfl #[.slice Ao18 x5_2.length co18, .slice A123_0 (rd_L1 l0 x23_2).length c123_0] rfl (by (try simp only [List.map_toArray, List.map_cons, List.map_nil]); first | done | rfl | (simp only [List.length_drop, List.length_take]; rfl)) ?_; (with_reducible refine (words_follows.calls _ _ x5_2 _ _ (rd_L1 l0 x23_2) true _ ?side1 ?side2 ?side3 ?side4 A10.out).mono ?_); (case side1 => repeat (first | exact (Kd.V_reads' HO_5.out).2.2 | (with_reducible refine Kd.C_alloc ?_ _) | (with_reducible refine Kd.C_drewN ?_ _) | (with_reducible refine Kd.C_drew ?_))); (case side2 => exact (Kd.V_reads' HO_5.out).2.1); (case side3 => repeat (first | exact (by repeat (first | (with_reducible exact HR123_0.out) | (with_reducible refine Kd.C_alloc ?_ _) | (with_reducible refine Kd.C_drewN ?_ _) | (with_reducible refine Kd.C_drew ?_) | exact HR123_0.out)) | (with_reducible refine Kd.C_alloc ?_ _) | (with_reducible refine Kd.C_drewN ?_ _) | (with_reducible refine Kd.C_drew ?_))); (case side4 => exact HC123_0.out); rintro e w19 ⟨rfl, hb⟩; refine ⟨_, rfl, ?_⟩; have n0_ := Aside0.mk (Kd.R_below (by (with_reducible repeat (first | apply Kd.R_alloc | apply Kd.R_drewN | apply Kd.R_drew)); exact HO_4.out) hb); have n1_ := Aside0.mk (Kd.V_below (by (with_reducible repeat (first | apply Kd.V_alloc | apply Kd.V_drewN | apply Kd.V_drew)); exact HO_5.out) hb); have n2_ := Aside0.mk (Kd.V_below (by (with_reducible repeat (first | apply Kd.V_alloc | apply Kd.V_drewN | apply Kd.V_drew)); exact HO_21.out) hb); have n3_ := Aside0.mk (Kd.V_below (by (with_reducible repeat (first | apply Kd.V_alloc | apply Kd.V_drewN | apply Kd.V_drew)); exact HL123_0.out) hb); have n4_ := Aside0.mk (Kd.C_below (by repeat (first | (with_reducible exact HR123_0.out) | (with_reducible refine Kd.C_alloc ?_ _) | (with_reducible refine Kd.C_drewN ?_ _) | (with_reducible refine Kd.C_drew ?_) | exact HR123_0.out)) hb); have n5_ := Aside0.mk (below_step (by repeat (first | (with_reducible first | exact HB.out | apply below_alloc | apply pw_below_drewN | apply below_drew1) | exact HB.out)) hb); clear HO_4; clear HO_5; clear HO_21; clear HL123_0; clear HR123_0; clear HB; have HO_4 := n0_; have HO_5 := n1_; have HO_21 := n2_; have HL123_0 := n3_; have HR123_0 := n4_; have HB := n5_; clear n0_ n1_ n2_ n3_ n4_ n5_; (try clear hb); (try clear hb2); (try clear hk); (try clear hi)) | ((with_reducible refine gate_callee (f := 57) rfl ?_); refine goesL_ (some 33) rfl rfl Try.func57 (by kernel_rfl) rfl #[.slice Ao18 x5_2.length co18, .slice A123_0 (rd_L1 l0 x23_2).length c123_0] rfl (by (try simp only [List.map_toArray, List.map_cons, List.map_nil]); first | done | rfl | (simp only [List.length_drop, List.length_take]; rfl)) ?_; (with_reducible refine (words_Shared.calls k2 _ _ x5_2 _ _ (rd_L1 l0 x23_2) t125 _ ?side1 ?side2 ?side3 ?side4 A12.out).mono ?_); (case side1 => repeat (first | exact (Kd.V_reads' HO_5.out).2.2 | (with_reducible refine Kd.C_alloc ?_ _) | (with_reducible refine Kd.C_drewN ?_ _) | (with_reducible refine Kd.C_drew ?_))); (case side2 => exact (Kd.V_reads' HO_5.out).2.1); (case side3 => repeat (first | exact (by repeat (first | (with_reducible exact HR123_0.out) | (with_reducible refine Kd.C_alloc ?_ _) | (with_reducible refine Kd.C_drewN ?_ _) | (with_reducible refine Kd.C_drew ?_) | exact HR123_0.out)) | (with_reducible refine Kd.C_alloc ?_ _) | (with_reducible refine Kd.C_drewN ?_ _) | (with_reducible refine Kd.C_drew ?_))); (case side4 => exact HC123_0.out); rintro e w20 ⟨rfl, hb⟩; refine ⟨_, rfl, ?_⟩; have n0_ := Aside0.mk (Kd.R_below (by (with_reducible repeat (first | apply Kd.R_alloc | apply Kd.R_drewN | apply Kd.R_drew)); exact HO_4.out) hb); have n1_ := Aside0.mk (Kd.V_below (by (with_reducible repeat (first | apply Kd.V_alloc | apply Kd.V_drewN | apply Kd.V_drew)); exact HO_5.out) hb); have n2_ := Aside0.mk (Kd.V_below (by (with_reducible repeat (first | apply Kd.V_alloc | apply Kd.V_drewN | apply Kd.V_drew)); exact HO_21.out) hb); have n3_ := Aside0.mk (Kd.V_below (by (with_reducible repeat (first | apply Kd.V_alloc | apply Kd.V_drewN | apply Kd.V_drew)); exact HL123_0.out) hb); have n4_ := Aside0.mk (Kd.C_below (by repeat (first | (with_reducible exact HR123_0.out) | (with_reducible refine Kd.C_alloc ?_ _) | (with_reducible refine Kd.C_drewN ?_ _) | (with_reducible refine Kd.C_drew ?_) | exact HR123_0.out)) hb); have n5_ := Aside0.mk (below_step (by repeat (first | (with_reducible first | exact HB.out | apply below_alloc | apply pw_below_drewN | apply below_drew1) | exact HB.out)) hb); clear HO_4; clear HO_5; clear HO_21; clear HL123_0; clear HR123_0; clear HB; have HO_4 := n0_; have HO_5 := n1_; have HO_21 := n2_; have HL123_0 := n3_; have HR123_0 := n4_; have HB := n5_; clear n0_ n1_ n2_ n3_ n4_ n5_; (try clear hb); (try clear hb2); (try clear hk); (try clear hi)))
             have n0_ := Aside0.mk (Kd.R_drew HO_4.out)
             have n1_ := Aside0.mk (Kd.V_drew HO_5.out)
             have n2_ := Aside0.mk (Kd.V_drew HO_21.out)
             have n3_ := Aside0.mk (Kd.V_drew HL123_0.out)
             have n4_ := Aside0.mk (Kd.C_drew HR123_0.out)
             have n5_ := Aside0.mk (below_drew1 HB.out)
             clear HO_4
             clear HO_5
             clear HO_21
             clear HL123_0
             clear HR123_0
             clear HB
             have HO_4 := n0_
             have HO_5 := n1_
             have HO_21 := n2_
             have HL123_0 := n3_
             have HR123_0 := n4_
             have HB := n5_
             clear n0_ n1_ n2_ n3_ n4_ n5_
             have q22 : (t125 : Int) ≤ (((rd_L1 l0 x23_2).length : Int) : Int) := of_decide_eq_true (by first | (with_reducible assumption) | assumption)
             obtain ⟨i022, hi022, _, hsz22, _⟩ := info_parts info5
             have hroom22 : (rd_L1 l0 x23_2).length ≤ c123_0 := HC123_0.out
             have hC22 : Kd.F (Kd.int .u8) _ _ A123_0 (rd_L1 l0 x23_2).length (rd_L1 l0 x23_2) := (Kd.V_at (base := w.heap.size) HL123_0.out).2.2
             have q022 : (0 : Int) ≤ (t125 : Int) := of_decide_eq_true (by first | (with_reducible assumption) | assumption)
             have hcut22 := cut_from (P := Try.prog) 26 5 .i64 Try.underlying26 hi022 1 hsz22 A123_0 (rd_L1 l0 x23_2).length c123_0 t125 q022 q22
             have hr22 := Kd.F_cut (m := (t125 : Int).toNat) (c := c123_0) hC22 (by omega) hroom22
             obtain ⟨A22, hA22⟩ : ∃ A1, A1 = (if c123_0 = (t125 : Int).toNat then A123_0 else (A123_0 : Option Addr).map (·.add ((t125 : Int).toNat * 1))) := ⟨_, rfl⟩
             obtain ⟨c22, hc22⟩ : ∃ c1, c1 = c123_0 - (t125 : Int).toNat := ⟨_, rfl⟩
             have hy22 : y132.length = (rd_L1 l0 x23_2).length - (t125 : Int).toNat := (by rw [Ny132.out, List.length_drop] <;> omega)
             rw [show (rd_L1 l0 x23_2).drop (t125 : Int).toNat = y132 from Ny132.out.symm] at hr22
             replace hr22 : Kd.F (Kd.int .u8) _ _ A22 y132.length y132 := (by rw [hA22]; exact hr22)
             rw [← hy22, ← hA22, ← hc22] at hcut22
             have HO136 := Aside0.mk (show Kd.V (Kd.int .u8) 5 _ w.heap.size _ (.slice A22 y132.length c22) y132 from Kd.V_mk (by rw [hy22, hc22]; exact Nat.sub_le_sub_right hroom22 _) hr22)
             have HC136 := Aside0.mk (show y132.length ≤ c22 from by rw [hy22, hc22]; exact Nat.sub_le_sub_right hroom22 _)
             clear hr22 hC22 hroom22 hi022 hsz22 hc22
             have KY22 := Aside0.mk hy22
             have KA22 := Aside0.mk hA22
             clear hy22 hA22
             replace q22 := eq_true q22
             obtain ⟨Ao23, co23, eo23⟩ := Kd.R_slice HO_4.out
             (first | subst eo23 | (injection eo23 with f1_ f2_ f3_; have f4_ := f1_.symm; have f5_ := f3_.symm; clear f1_ f2_ f3_; subst f4_; subst f5_))
             refine start_ (n := 15) (S := fun w' => True) (ds := []) #[false, false, false, false, false, false, false, false, false, false, false, false, false, false, false] (by kernel_rfl) rfl rfl trivial (fun hHeld => ?_); refine with_tabW words_Put.tab11 words_Put.bits11 (fun HT_ HW_ => ?_)
             generalize w20.drew = w21 at HO_4 HO_5 HO_21 HL123_0 HR123_0 HB HO136 hHeld ⊢
             refine pure_ (i := 0) (N := some 34) (v := ?_) (a' := ?_) #[true, false, false, false, false, false, false, false, false, false, false, false, false, false, false] rfl rfl (any_of HT_.out (by kernel_rfl)) (fun _ _ _ h => h) (Or.inl ⟨by rfl, ?_⟩) ?_ ?_
             rotate_left
             ·intro w'
              go_simp
              with_reducible rfl
             rotate_left
             ·simp only [Act.put, List.setIfInBounds_toArray, List.set_cons_zero, List.set_cons_succ, i64_w, i32_w]
              rfl
             refine pure_ (i := 1) (N := some 35) (v := ?_) (a' := ?_) #[true, true, false, false, false, false, false, false, false, false, false, false, false, false, false] rfl rfl (any_of HT_.out (by kernel_rfl)) (fun _ _ _ h => h) (Or.inl ⟨by rfl, ?_⟩) ?_ ?_
             rotate_left
             ·intro w'
              go_simp
              with_reducible rfl
             rotate_left
             ·simp only [Act.put, List.setIfInBounds_toArray, List.set_cons_zero, List.set_cons_succ, i64_w, i32_w]
              rfl
             refine pure_ (i := 2) (N := some 36) (v := ?_) (a' := ?_) #[true, true, true, false, false, false, false, false, false, false, false, false, false, false, false] rfl rfl (any_of HT_.out (by kernel_rfl)) (fun _ _ _ h => h) (Or.inl ⟨by rfl, ?_⟩) ?_ ?_
             rotate_left
             ·intro w'
              go_simp
              with_reducible rfl
             rotate_left
             ·simp only [Act.put, List.setIfInBounds_toArray, List.set_cons_zero, List.set_cons_succ, i64_w, i32_w]
              rfl
             refine pure_ (i := 4) (N := some 38) (v := ?_) (a' := ?_) #[true, true, true, false, true, false, false, false, false, false, false, false, false, false, false] rfl rfl (any_of HT_.out (by kernel_rfl)) (fun _ _ _ h => h) (Or.inl ⟨by rfl, ?_⟩) ?_ ?_
             rotate_left
             ·intro w'
              go_simp
              with_reducible rfl
             rotate_left
             ·simp only [Act.put, List.setIfInBounds_toArray, List.set_cons_zero, List.set_cons_succ, i64_w, i32_w]
              rfl
             refine pure_ (i := 5) (N := some 39) (v := ?_) (a' := ?_) #[true, true, true, false, true, true, false, false, false, false, false, false, false, false, false] rfl rfl (any_of HT_.out (by kernel_rfl)) (fun _ _ _ h => h) (Or.inl ⟨by rfl, ?_⟩) ?_ ?_
             rotate_left
             ·intro w'
              go_simp
              with_reducible rfl
             rotate_left
             ·simp only [Act.put, List.setIfInBounds_toArray, List.set_cons_zero, List.set_cons_succ, i64_w, i32_w]
              rfl
             refine pure_ (i := 6) (N := some 40) (v := ?_) (a' := ?_) #[true, true, true, false, true, true, true, false, false, false, false, false, false, false, false] rfl rfl (any_of HT_.out (by kernel_rfl)) (fun _ _ _ h => h) (Or.inl ⟨by rfl, ?_⟩) ?_ ?_
             rotate_left
             ·intro w'
              go_simp
              with_reducible rfl
             rotate_left
             ·simp only [Act.put, List.setIfInBounds_toArray, List.set_cons_zero, List.set_cons_succ, i64_w, i32_w]
              rfl
             refine pure_ (i := 7) (N := some 41) (v := ?_) (a' := ?_) #[true, true, true, false, true, true, true, true, false, false, false, false, false, false, false] rfl rfl (any_of HT_.out (by kernel_rfl)) (fun _ _ _ h => h) (Or.inl ⟨by rfl, ?_⟩) ?_ ?_
             rotate_left
             ·intro w'
              go_simp
              with_reducible rfl
             rotate_left
             ·simp only [Act.put, List.setIfInBounds_toArray, List.set_cons_zero, List.set_cons_succ, i64_w, i32_w]
              rfl
             refine pure_ (i := 8) (N := some 42) (v := ?_) (a' := ?_) #[true, true, true, false, true, true, true, true, true, false, false, false, false, false, false] rfl rfl (any_of HT_.out (by kernel_rfl)) (fun _ _ _ h => h) (Or.inl ⟨by rfl, ?_⟩) ?_ ?_
             rotate_left
             ·intro w'
              go_simp
              with_reducible rfl
             rotate_left
             ·simp only [Act.put, List.setIfInBounds_toArray, List.set_cons_zero, List.set_cons_succ, i64_w, i32_w]
              rfl
             refine pure_ (i := 10) (N := some 44) (v := ?_) (a' := ?_) #[true, true, true, false, true, true, true, true, true, false, true, false, false, false, false] rfl rfl (any_of HT_.out (by kernel_rfl)) (fun _ _ _ h => h) (Or.inl ⟨by rfl, ?_⟩) ?_ ?_
             rotate_left
             ·intro w'
              go_simp
              with_reducible rfl
             rotate_left
             ·simp only [Act.put, List.setIfInBounds_toArray, List.set_cons_zero, List.set_cons_succ, i64_w, i32_w]
              rfl
             refine pure_ (i := 11) (N := some 45) (v := ?_) (a' := ?_) #[true, true, true, false, true, true, true, true, true, false, true, true, false, false, false] rfl rfl (any_of HT_.out (by kernel_rfl)) (fun _ _ _ h => h) (Or.inl ⟨by rfl, ?_⟩) ?_ ?_
             rotate_left
             ·intro w'
              go_simp
              with_reducible rfl
             rotate_left
             ·simp only [Act.put, List.setIfInBounds_toArray, List.set_cons_zero, List.set_cons_succ, i64_w, i32_w]
              rfl
             refine pure_ (i := 12) (N := some 46) (v := ?_) (a' := ?_) #[true, true, true, false, true, true, true, true, true, false, true, true, true, false, false] rfl rfl (any_of HT_.out (by kernel_rfl)) (fun _ _ _ h => h) (Or.inl ⟨by rfl, ?_⟩) ?_ ?_
             rotate_left
             ·intro w'
              go_simp
              with_reducible rfl
             rotate_left
             ·simp only [Act.put, List.setIfInBounds_toArray, List.set_cons_zero, List.set_cons_succ, i64_w, i32_w]
              rfl
             refine one_ (i := 3) (N := some 37) #[true, true, true, true, true, true, true, true, true, false, true, true, true, false, false] rfl rfl (one_of HT_.out (by kernel_rfl)) (by decide) (fun K hK => ?_)
             refine goes_ Try.func55 (by kernel_rfl) rfl #[.slice Ao23 x4_2.length co23, .int .u64 (IntKind.u64.wrap (t125))] (by rfl) rfl rfl (by (try simp only [List.map_toArray, List.map_cons, List.map_nil]); first | done | rfl | (simp only [List.length_drop, List.length_take]; rfl)) ?_
             with_reducible refine (vary_Put.calls k2 _ _ x4_2 (IntKind.u64.wrap (t125)) t126 _ ?side1 ?side2 A13.out).mono ?_
             (case side1 => repeat (first | exact (Kd.R_reads' HO_4.out).2.2 | (with_reducible refine Kd.C_alloc ?_ _) | (with_reducible refine Kd.C_drewN ?_ _) | (with_reducible refine Kd.C_drew ?_)))
             (case side2 => exact (Kd.R_reads' HO_4.out).2.1)
             rintro e w24 ⟨v127, rfl, ho0, hb⟩
             refine ⟨_, rfl, ?_⟩
             have n0_ := Aside0.mk (Kd.R_elder' (by (with_reducible repeat (first | apply Kd.R_alloc | apply Kd.R_drewN | apply Kd.R_drew)); exact HO_4.out) (Kd.R_base ho0) hb)
             have n1_ := Aside0.mk (Kd.V_elder' (by (with_reducible repeat (first | apply Kd.V_alloc | apply Kd.V_drewN | apply Kd.V_drew)); exact HO_5.out) (Kd.R_base ho0) hb)
             have n2_ := Aside0.mk (Kd.V_elder' (by (with_reducible repeat (first | apply Kd.V_alloc | apply Kd.V_drewN | apply Kd.V_drew)); exact HO_21.out) (Kd.R_base ho0) hb)
             have n3_ := Aside0.mk (Kd.V_elder' (by (with_reducible repeat (first | apply Kd.V_alloc | apply Kd.V_drewN | apply Kd.V_drew)); exact HL123_0.out) (Kd.R_base ho0) hb)
             have n4_ := Aside0.mk (Kd.V_elder' (by (with_reducible repeat (first | apply Kd.V_alloc | apply Kd.V_drewN | apply Kd.V_drew)); exact HO136.out) (Kd.R_base ho0) hb)
             have n5_ := Aside0.mk (Kd.R_lower (Kd.R_new' (Kd.R_newM (M := fun k_ => (w.heap.size ≤ k_)) ho0 (below_size (by repeat (first | (with_reducible first | exact HB.out | apply below_alloc | apply pw_below_drewN | apply below_drew1) | exact HB.out))) (fun k_ h_ => h_)) (Kd.R_lt (by (with_reducible repeat (first | apply Kd.R_alloc | apply Kd.R_drewN | apply Kd.R_drew)); exact HO_4.out))) (below_size (by repeat (first | (with_reducible first | exact HB.out | apply below_alloc | apply pw_below_drewN | apply below_drew1) | exact HB.out))))
             have n6_ := Aside0.mk (Kd.C_below (by repeat (first | (with_reducible exact HR123_0.out) | (with_reducible refine Kd.C_alloc ?_ _) | (with_reducible refine Kd.C_drewN ?_ _) | (with_reducible refine Kd.C_drew ?_) | exact HR123_0.out)) hb)
             have n7_ := Aside0.mk (below_step (by repeat (first | (with_reducible first | exact HB.out | apply below_alloc | apply pw_below_drewN | apply below_drew1) | exact HB.out)) hb)
             clear HO_4
             clear HO_5
             clear HO_21
             clear HL123_0
             clear HO136
             clear HR123_0
             clear HB
             have HO_4 := n0_
             have HO_5 := n1_
             have HO_21 := n2_
             have HL123_0 := n3_
             have HO136 := n4_
             have HO128 := n5_
             have HR123_0 := n6_
             have HB := n7_
             clear n0_ n1_ n2_ n3_ n4_ n5_ n6_ n7_
             (try clear hb)
             (try clear hb2)
             (try clear hk)
             (try clear hi)
             (try clear ho0)
             obtain ⟨Ao25, co25, eo25⟩ := Kd.R_slice HO128.out
             (first | subst eo25 | (injection eo25 with f1_ f2_ f3_; have f4_ := f1_.symm; have f5_ := f3_.symm; clear f1_ f2_ f3_; subst f4_; subst f5_))
             refine hK.out _ _ trivial (fun hHeld => ?_)
             clear hK K
             refine norm_ (a' := ?_) ?_ ?_
             rotate_left
             ·show Act.put _ (some 37) _ = _
              simp only [Act.put, List.setIfInBounds_toArray, List.set_cons_zero, List.set_cons_succ, i64_w, i32_w]
              rfl
             refine one_ (i := 9) (N := some 43) #[true, true, true, true, true, true, true, true, true, true, true, true, true, false, false] rfl rfl (one_of HT_.out (by kernel_rfl)) (by decide) (fun K hK => ?_)
             refine goes_ Try.func55 (by kernel_rfl) rfl #[.slice Ao25 t126.length co25, .int .u64 (IntKind.u64.wrap (wrap64 (((rd_L1 l0 x23_2).length : Int) - t125)))] (by rfl) rfl rfl (by (try simp only [List.map_toArray, List.map_cons, List.map_nil]); first | done | rfl | (simp only [List.length_drop, List.length_take]; rfl)) ?_
             with_reducible refine (vary_Put.calls k2 _ _ t126 (IntKind.u64.wrap (wrap64 (((rd_L1 l0 x23_2).length : Int) - t125))) t129 _ ?side1 ?side2 A14.out).mono ?_
             (case side1 => repeat (first | exact (Kd.R_reads' HO128.out).2.2 | (with_reducible refine Kd.C_alloc ?_ _) | (with_reducible refine Kd.C_drewN ?_ _) | (with_reducible refine Kd.C_drew ?_)))
             (case side2 => exact (Kd.R_reads' HO128.out).2.1)
             rintro e w26 ⟨v130, rfl, ho0, hb⟩
             refine ⟨_, rfl, ?_⟩
             have n0_ := Aside0.mk (Kd.R_elder' (by (with_reducible repeat (first | apply Kd.R_alloc | apply Kd.R_drewN | apply Kd.R_drew)); exact HO_4.out) (Kd.R_base ho0) hb)
             have n1_ := Aside0.mk (Kd.V_elder' (by (with_reducible repeat (first | apply Kd.V_alloc | apply Kd.V_drewN | apply Kd.V_drew)); exact HO_5.out) (Kd.R_base ho0) hb)
             have n2_ := Aside0.mk (Kd.V_elder' (by (with_reducible repeat (first | apply Kd.V_alloc | apply Kd.V_drewN | apply Kd.V_drew)); exact HO_21.out) (Kd.R_base ho0) hb)
             have n3_ := Aside0.mk (Kd.V_elder' (by (with_reducible repeat (first | apply Kd.V_alloc | apply Kd.V_drewN | apply Kd.V_drew)); exact HL123_0.out) (Kd.R_base ho0) hb)
             have n4_ := Aside0.mk (Kd.V_elder' (by (with_reducible repeat (first | apply Kd.V_alloc | apply Kd.V_drewN | apply Kd.V_drew)); exact HO136.out) (Kd.R_base ho0) hb)
             have n5_ := Aside0.mk (Kd.R_elder' (by (with_reducible repeat (first | apply Kd.R_alloc | apply Kd.R_drewN | apply Kd.R_drew)); exact HO128.out) (Kd.R_base ho0) hb)
             have n6_ := Aside0.mk (Kd.R_lower (Kd.R_new' (Kd.R_new' (Kd.R_newM (M := fun k_ => (w.heap.size ≤ k_)) ho0 (below_size (by repeat (first | (with_reducible first | exact HB.out | apply below_alloc | apply pw_below_drewN | apply below_drew1) | exact HB.out))) (fun k_ h_ => h_)) (Kd.R_lt (by (with_reducible repeat (first | apply Kd.R_alloc | apply Kd.R_drewN | apply Kd.R_drew)); exact HO_4.out))) (Kd.R_lt (by (with_reducible repeat (first | apply Kd.R_alloc | apply Kd.R_drewN | apply Kd.R_drew)); exact HO128.out))) (below_size (by repeat (first | (with_reducible first | exact HB.out | apply below_alloc | apply pw_below_drewN | apply below_drew1) | exact HB.out))))
             have n7_ := Aside0.mk (Kd.C_below (by repeat (first | (with_reducible exact HR123_0.out) | (with_reducible refine Kd.C_alloc ?_ _) | (with_reducible refine Kd.C_drewN ?_ _) | (with_reducible refine Kd.C_drew ?_) | exact HR123_0.out)) hb)
             have n8_ := Aside0.mk (below_step (by repeat (first | (with_reducible first | exact HB.out | apply below_alloc | apply pw_below_drewN | apply below_drew1) | exact HB.out)) hb)
             clear HO_4
             clear HO_5
             clear HO_21
             clear HL123_0
             clear HO136
             clear HO128
             clear HR123_0
             clear HB
             have HO_4 := n0_
             have HO_5 := n1_
             have HO_21 := n2_
             have HL123_0 := n3_
             have HO136 := n4_
             have HO128 := n5_
             have HO131 := n6_
             have HR123_0 := n7_
             have HB := n8_
             clear n0_ n1_ n2_ n3_ n4_ n5_ n6_ n7_ n8_
             (try clear hb)
             (try clear hb2)
             (try clear hk)
             (try clear hi)
             (try clear ho0)
             refine hK.out _ _ trivial (fun hHeld => ?_)
             clear hK K
             refine norm_ (a' := ?_) ?_ ?_
             rotate_left
             ·show Act.put _ (some 43) _ = _
              simp only [Act.put, List.setIfInBounds_toArray, List.set_cons_zero, List.set_cons_succ, i64_w, i32_w]
              rfl
             refine one_ (i := 13) (N := some 47) #[true, true, true, true, true, true, true, true, true, true, true, true, true, true, false] rfl rfl (one_of HT_.out (by kernel_rfl)) (by decide) (fun K hK => ?_)
             refine Kd.R_append_rows_step (Kd.int .u8) (w0 := w) w.heap.size (by rfl) (.tmp 43) (.tmp 46) 26 5 (.int .u8 0) 1 rfl Try.underlying26 info5 rfl (by decide) (by omega) v130 t129 y132 _ _ _ (fun k_ => (w.heap.size ≤ k_) ∧ some k_ ≠ (.slice Ao23 x4_2.length co23 : Value).ownBlock ∧ some k_ ≠ (.slice Ao25 t126.length co25 : Value).ownBlock) (fun _ => False) rfl rfl ?aO ?aR (fun _ _ h => h) (fun _ h => h.elim) ?aF ?aB ?aS ?aL ?_
             (case aR => repeat (first | exact (Kd.V_reads' HO136.out).2.2 | (with_reducible refine Kd.C_alloc ?_ _) | (with_reducible refine Kd.C_drewN ?_ _) | (with_reducible refine Kd.C_drew ?_)))
             (case aB => exact (by repeat (first | (with_reducible first | exact HB.out | apply below_alloc | apply pw_below_drewN | apply below_drew1) | exact HB.out)))
             (case aF => exact (fun k_ hk => ⟨(Nat.le_trans (below_size (by repeat (first | (with_reducible first | exact HB.out | apply below_alloc | apply pw_below_drewN | apply below_drew1) | exact HB.out))) hk), Kd.fresh' (Kd.R_lt (by (with_reducible repeat (first | apply Kd.R_alloc | apply Kd.R_drewN | apply Kd.R_drew)); exact HO_4.out)) k_ hk, Kd.fresh' (Kd.R_lt (by (with_reducible repeat (first | apply Kd.R_alloc | apply Kd.R_drewN | apply Kd.R_drew)); exact HO128.out)) k_ hk⟩))
             (case aO => exact (by (with_reducible repeat (first | apply Kd.R_alloc | apply Kd.R_drewN | apply Kd.R_drew)); exact Kd.R_mono HO131.out (fun _ hk => ⟨hk.1.1.1, ⟨hk.1.2, hk.2⟩⟩)))
             (case aS => exact (below_size (by repeat (first | (with_reducible first | exact HB.out | apply below_alloc | apply pw_below_drewN | apply below_drew1) | exact HB.out))))
             (case aL => have := LMc17.out; omega)
             intro v138 w27 ho hb hg hat
             rw [← Ny137.out] at ho
             have n0_ := Aside0.mk (Kd.R_after (ok := (fun k_ => (w.heap.size ≤ k_) ∧ some k_ ≠ (.slice Ao25 t126.length co25 : Value).ownBlock)) (by (with_reducible repeat (first | apply Kd.R_alloc | apply Kd.R_drewN | apply Kd.R_drew)); exact HO_4.out) hg hat)
             have n1_ := Aside0.mk (Kd.V_afterv (ok := (fun k_ => (P0_ k_ ∨ w.heap.size ≤ k_) ∧ some k_ ≠ (.slice Ao23 x4_2.length co23 : Value).ownBlock ∧ some k_ ≠ (.slice Ao25 t126.length co25 : Value).ownBlock)) (by (with_reducible repeat (first | apply Kd.V_alloc | apply Kd.V_drewN | apply Kd.V_drew)); exact Kd.V_mono HO_5.out (fun _ hk => ⟨⟨hk.1.1.1, ⟨hk.1.1.2, hk.1.2⟩⟩, hk.2⟩)) hg hat)
             have n2_ := Aside0.mk (Kd.V_afterv (ok := (fun k_ => (P0_ k_ ∨ w.heap.size ≤ k_) ∧ some k_ ≠ (.slice Ao23 x4_2.length co23 : Value).ownBlock ∧ some k_ ≠ (.slice Ao25 t126.length co25 : Value).ownBlock)) (by (with_reducible repeat (first | apply Kd.V_alloc | apply Kd.V_drewN | apply Kd.V_drew)); exact Kd.V_mono HO_21.out (fun _ hk => ⟨⟨hk.1.1.1, ⟨hk.1.1.2, hk.1.2⟩⟩, hk.2⟩)) hg hat)
             have n3_ := Aside0.mk (Kd.V_afterv (ok := (fun k_ => (P0_ k_ ∨ w.heap.size ≤ k_) ∧ some k_ ≠ (.slice Ao23 x4_2.length co23 : Value).ownBlock ∧ some k_ ≠ (.slice Ao25 t126.length co25 : Value).ownBlock)) (by (with_reducible repeat (first | apply Kd.V_alloc | apply Kd.V_drewN | apply Kd.V_drew)); exact Kd.V_mono HL123_0.out (fun _ hk => ⟨⟨hk.1.1.1, ⟨hk.1.1.2, hk.1.2⟩⟩, hk.2⟩)) hg hat)
             have n4_ := Aside0.mk (Kd.V_afterv (ok := (fun k_ => (P0_ k_ ∨ w.heap.size ≤ k_) ∧ some k_ ≠ (.slice Ao23 x4_2.length co23 : Value).ownBlock ∧ some k_ ≠ (.slice Ao25 t126.length co25 : Value).ownBlock)) (by (with_reducible repeat (first | apply Kd.V_alloc | apply Kd.V_drewN | apply Kd.V_drew)); exact Kd.V_mono HO136.out (fun _ hk => ⟨⟨hk.1.1.1, ⟨hk.1.1.2, hk.1.2⟩⟩, hk.2⟩)) hg hat)
             have n5_ := Aside0.mk (Kd.R_after (ok := (fun k_ => (w.heap.size ≤ k_) ∧ some k_ ≠ (.slice Ao23 x4_2.length co23 : Value).ownBlock)) (by (with_reducible repeat (first | apply Kd.R_alloc | apply Kd.R_drewN | apply Kd.R_drew)); exact Kd.R_mono HO128.out (fun _ hk => ⟨⟨hk.1.1.1, hk.1.2⟩, hk.2⟩)) hg hat)
             have n6_ := Aside0.mk (hb)
             have n7_ := Aside0.mk (ho)
             clear HO_4
             clear HO_5
             clear HO_21
             clear HL123_0
             clear HO136
             clear HO128
             clear HB
             clear HO131
             have HO_4 := n0_
             have HO_5 := n1_
             have HO_21 := n2_
             have HL123_0 := n3_
             have HO136 := n4_
             have HO128 := n5_
             have HB := n6_
             have HO139 := n7_
             clear n0_ n1_ n2_ n3_ n4_ n5_ n6_ n7_
             clear ho hb hg hat
             refine hK.out _ _ trivial (fun hHeld => ?_)
             clear hK K
             refine norm_ (a' := ?_) ?_ ?_
             rotate_left
             ·show Act.put _ (some 47) _ = _
              simp only [Act.put, List.setIfInBounds_toArray, List.set_cons_zero, List.set_cons_succ, i64_w, i32_w]
              rfl
             refine pure_ (i := 14) (N := some 4) (v := ?_) (a' := ?_) #[true, true, true, true, true, true, true, true, true, true, true, true, true, true, true] rfl rfl (any_of HT_.out (by kernel_rfl)) (fun _ _ _ h => h) (Or.inl ⟨by rfl, ?_⟩) ?_ ?_
             rotate_left
             ·intro w'
              go_simp
              with_reducible rfl
             rotate_left
             ·simp only [Act.put, List.setIfInBounds_toArray, List.set_cons_zero, List.set_cons_succ, i64_w, i32_w]
              rfl
             refine done_ (done_of HT_.out (by kernel_rfl)) ?_
             try go_wp2
             go_roundg k2
             case measure => have := HJ1.out; have := HK2.out; omega
             case rel => exact ⟨(y137), (rd_L1 l0 x23_2), (wrap64 (x23_2 + 1)), (by first | rfl | (simp; done) | (simp [*]; done)), H', ⟨by have := HJ1.out; have := HK2.out; omega⟩, ⟨by (with_reducible repeat (first | apply Kd.R_alloc | apply Kd.R_drewN | apply Kd.R_drew)); exact Kd.R_mono HO139.out (fun _ hk => hk.1)⟩, ⟨by (with_reducible repeat (first | apply Kd.V_alloc | apply Kd.V_drewN | apply Kd.V_drew)); exact Kd.V_mono HL123_0.out (fun _ hk => ⟨hk.1.1, hk.2⟩)⟩, ⟨by (with_reducible repeat (first | apply Kd.V_alloc | apply Kd.V_drewN | apply Kd.V_drew)); exact Kd.V_mono HO_21.out (fun _ hk => ⟨hk.1.1, hk.2⟩)⟩, ⟨by repeat (first | (with_reducible first | exact HB.out | apply below_alloc | apply pw_below_drewN | apply below_drew1) | exact HB.out)⟩⟩
            ·rw [if_neg c17] at H
             exact absurd H (by simp)
           ·rw [if_neg c16] at H
            exact absurd H (by simp)
          ·rw [if_neg c15] at H
           exact absurd H (by simp)
         ·replace c11 := Bool.eq_false_iff.mpr c11
          subst c11
          have H1 : (some (([] : List Int), 1)) = some (r1, r2) := by rw [if_neg (show ¬ (false = true) by decide)] at H; exact H
          clear H
          have H := H1
          clear H1
          simp only [Option.some.injEq, Prod.mk.injEq] at H
          obtain ⟨rfl, rfl⟩ := H
          have p123 : 0 ≤ (x23_2 : Int) := of_decide_eq_true (by first | (with_reducible assumption) | assumption)
          have q123 : x23_2 < (l0.length : Int) := of_decide_eq_true (by first | (with_reducible assumption) | assumption)
          obtain ⟨ad123, A123_0, c123_0, e123, hx123_0, hl123_0, hi123_0⟩ := at_L1 (Kd.V_reads' HO_21.out).2.2 x23_2 p123 q123
          cases e123
          obtain ⟨ce123, hce123, hMe123, hcc123⟩ := Kd.V_get HO_21.out [] x23_2 p123 (by first | exact q123 | exact of_decide_eq_true (by first | (with_reducible assumption) | assumption) | (have e_ := (Kd.V_reads' HO_21.out).1; omega))
          obtain ⟨ua123_0, uc123_0, rfl, ul123_0, ge123_0⟩ := Kd.FK_slice_open hMe123
          have hv123_0 := hcc123 0 _ rfl
          rw [Nat.add_zero, show ((Kd.slice 5 (Kd.int .u8))).sz = 1 from rfl, Nat.mul_one] at hv123_0
          replace hv123_0 := Option.some.inj (hv123_0.symm.trans hx123_0)
          injection hv123_0 with hva_ hvn_ hvc_
          rw [hva_] at ge123_0
          rw [hvc_] at ul123_0
          have HL123_0 := Aside0.mk (show Kd.V (Kd.int .u8) 5 _ w.heap.size _ _ (rd_L1 l0 x23_2) from Kd.V_mk ul123_0 ge123_0)
          clear hva_ hvn_ hvc_ ge123_0 ul123_0
          clear hcc123 hce123
          have HR123_0 := Aside0.mk hi123_0
          have HC123_0 := Aside0.mk hl123_0
          clear hi123_0 hl123_0
          replace p123 := eq_true p123
          replace q123 := eq_true q123
          obtain ⟨Ao28, co28, eo28⟩ := Kd.V_slice HO_5.out
          subst eo28
          go_wp2_with (first | ((with_reducible refine gate_callee (f := 56) rfl ?_); refine goesL_ (some 29) rfl rfl Try.func56 (by kernel_rfl) rfl #[.slice Ao28 x5_2.length co28, .slice A123_0 (rd_L1 l0 x23_2).length c123_0] rfl (by (try simp only [List.map_toArray, List.map_cons, List.map_nil]); first | done | rfl | (simp only [List.length_drop, List.length_take]; rfl)) ?_; (with_reducible refine (words_follows.calls _ _ x5_2 _ _ (rd_L1 l0 x23_2) false _ ?side1 ?side2 ?side3 ?side4 A10.out).mono ?_); (case side1 => repeat (first | exact (Kd.V_reads' HO_5.out).2.2 | (with_reducible refine Kd.C_alloc ?_ _) | (with_reducible refine Kd.C_drewN ?_ _) | (with_reducible refine Kd.C_drew ?_))); (case side2 => exact (Kd.V_reads' HO_5.out).2.1); (case side3 => repeat (first | exact (by repeat (first | (with_reducible exact HR123_0.out) | (with_reducible refine Kd.C_alloc ?_ _) | (with_reducible refine Kd.C_drewN ?_ _) | (with_reducible refine Kd.C_drew ?_) | exact HR123_0.out)) | (with_reducible refine Kd.C_alloc ?_ _) | (with_reducible refine Kd.C_drewN ?_ _) | (with_reducible refine Kd.C_drew ?_))); (case side4 => exact HC123_0.out); rintro e w29 ⟨rfl, hb⟩; refine ⟨_, rfl, ?_⟩; have n0_ := Aside0.mk (Kd.R_below (by (with_reducible repeat (first | apply Kd.R_alloc | apply Kd.R_drewN | apply Kd.R_drew)); exact HO_4.out) hb); have n1_ := Aside0.mk (Kd.V_below (by (with_reducible repeat (first | apply Kd.V_alloc | apply Kd.V_drewN | apply Kd.V_drew)); exact HO_5.out) hb); have n2_ := Aside0.mk (Kd.V_below (by (with_reducible repeat (first | apply Kd.V_alloc | apply Kd.V_drewN | apply Kd.V_drew)); exact HO_21.out) hb); have n3_ := Aside0.mk (Kd.V_below (by (with_reducible repeat (first | apply Kd.V_alloc | apply Kd.V_drewN | apply Kd.V_drew)); exact HL123_0.out) hb); have n4_ := Aside0.mk (Kd.C_below (by repeat (first | (with_reducible exact HR123_0.out) | (with_reducible refine Kd.C_alloc ?_ _) | (with_reducible refine Kd.C_drewN ?_ _) | (with_reducible refine Kd.C_drew ?_) | exact HR123_0.out)) hb); have n5_ := Aside0.mk (below_step (by repeat (first | (with_reducible first | exact HB.out | apply below_alloc | apply pw_below_drewN | apply below_drew1) | exact HB.out)) hb); clear HO_4; clear HO_5; clear HO_21; clear HL123_0; clear HR123_0; clear HB; have HO_4 := n0_; have HO_5 := n1_; have HO_21 := n2_; have HL123_0 := n3_; have HR123_0 := n4_; have HB := n5_; clear n0_ n1_ n2_ n3_ n4_ n5_; (try clear hb); (try clear hb2); (try clear hk); (try clear hi)))
          go_ret2
          exact ⟨_, by first | rfl | (simp [errW_none, errW_some] <;> rfl) | (simp [*, errW_none, errW_some] <;> rfl), by first | exact Kd.R_nil _ _ _ _ _ | exact Kd.N_nil _ _ _ _ _ | exact Kd.V_nil _ _ _ _ _ | exact Kd.Q_nil _ _ _ _ _ | exact Kd.S_nil _ _ _ _ _, by repeat (first | (with_reducible first | exact HB.out | apply below_alloc | apply pw_below_drewN | apply below_drew1) | exact HB.out)⟩
        ·rw [if_neg c9] at H
         exact absurd H (by simp)
       ·rw [if_neg c8] at H
        exact absurd H (by simp)
      ·rw [if_neg c7] at H
       have c7b0 : decide (x23_2 < (l0.length : Int)) = false := decide_eq_false c7
       clear c7
       simp only [Option.some.injEq, Prod.mk.injEq] at H
       obtain ⟨rfl, rfl⟩ := H
       go_wp2
       go_ret2
       exact ⟨_, by first | rfl | (simp [errW_none, errW_some] <;> rfl) | (simp [*, errW_none, errW_some] <;> rfl), by (with_reducible repeat (first | apply Kd.R_alloc | apply Kd.R_drewN | apply Kd.R_drew)); exact HO_4.out, by repeat (first | (with_reducible first | exact HB.out | apply below_alloc | apply pw_below_drewN | apply below_drew1) | exact HB.out)⟩

-- NOT PRINTED: function 66 (slices_Grow_byte_byte)

/-! ### slices_Concat_byte_byte: function 58 -/
set_option maxHeartbeats 2000000 in
set_option maxRecDepth 100000 in
/-- 'Grow' of nothing: room alone. -/
theorem grow_nil (n : Int) (h0 : 0 ≤ n) (hn : n < 140737488355000) (w : World) :
  Calls Try.prog 66 #[.slice none 0 0, .int .i64 n] w fun e w' => ∃ v_ : Value, e = .returned v_ ∧ Kd.R (Kd.int .u8) 5 w' w.heap.size (fun _ => True) v_ [] ∧ Below w.heap.size w w' := by
 obtain ⟨i5, hi5, _, hsz5, _⟩ := info_parts info5
 obtain ⟨hk0, -, -⟩ := print_take_of (P := Try.prog) (Value.int .u8) (0 : Int) 26 5 .i64 Try.underlying26 hi5 hsz5 none 0 ([] : List Int) 0 (by decide) (by decide) (by decide)
 have hk0' : ∀ W : World, (Instr.slice 26 (.slice none 0 0) none (some (.int .i64 0)) none).run Try.prog W = .ok (.slice none 0 0) W := hk0
 have hz0 : ¬ n < 0 := by omega
 by_cases hp : 0 < n
 ·have hl : (List.replicate n.toNat (0 : Int)).length = n.toNat := List.length_replicate ..
  go_enter Try.func66, Try.ntmps66
  go_wp2_with ((with_reducible refine gate_dst (N := 22) rfl ?_); refine Kd.R_append_zeros (Kd.int .u8) (w0 := w) w.heap.size rfl _ _ 26 3 5 (.int .u8 0) 1 rfl Try.underlying26 Try.underlying3 info5 rfl (by decide) (by decide) (.slice none 0 0) [] 0 n (fun _ => True) rfl rfl rfl (fun _ _ => trivial) (Kd.R_nil _ _ _ _ _) (by omega) (Below.refl _ _) (Nat.le_refl _) (by simp; omega) ?_; intro v1 w1 ho hb hg hat; obtain ⟨g, cap, rfl, hrest⟩ := Kd.R_form ho (by simp; omega); clear hrest hg hat; rw [List.nil_append, hl] at ho ⊢; obtain ⟨hk1, -, -⟩ := print_take_of (P := Try.prog) (Value.int .u8) (0 : Int) 26 5 .i64 Try.underlying26 hi5 hsz5 (some ⟨g, 0, none⟩) cap (List.replicate n.toNat (0 : Int)) 0 (by decide) (by omega) (by obtain ⟨_, hown⟩ := Kd.R_own ho; rw [hl]; exact own_le hown); rw [hl] at hk1; have HO1 := Aside0.mk ho; have HB1 := Aside0.mk hb; clear ho hb)
  go_ret
  exact ⟨_, rfl, by have h := Kd.R_take (m := 0) HO1.out (Nat.zero_le _); exact h, HB1.out⟩
 ·obtain rfl : n = 0 := by omega
  go_enter Try.func66, Try.ntmps66
  go_wp2
  go_ret
  exact ⟨_, rfl, Kd.R_nil _ _ _ _ _, Below.refl _ _⟩
theorem concat_at {w : World} {A : Option Addr} {n : Nat} {xs : List (List Int)} (h : Kd.C (Kd.slice 5 (Kd.int .u8)) w A n xs) (k : Nat) (h1 : k < n) : ∃ ad A0 c0, A = some ad ∧ w.cell? (ad.add k) = some (.slice A0 (xs.getD k []).length c0) ∧ (xs.getD k []).length ≤ c0 ∧ (Kd.int .u8).C w A0 (xs.getD k []).length (xs.getD k []) := by
 obtain ⟨ad, c, e, _, hK, hc0⟩ := Kd.C_get h ([] : List Int) (k : Int) (by omega) (by omega)
 have hc : ∀ j u, c[j]? = some u → w.cell? (ad.add (k * 1 + j)) = some u := hc0
 obtain ⟨A0, c0, rfl, l0, g0⟩ := hK
 exact ⟨ad, A0, c0, e, by have hq := hc 0 _ rfl; rwa [Nat.mul_one, Nat.add_zero] at hq, l0, g0⟩
theorem take_flat (xs : List (List Int)) (k : Nat) (h : k < xs.length) : (xs.take (k + 1)).flatten = (xs.take k).flatten ++ xs.getD k [] := by
 rw [List.take_add_one, List.flatten_append, List.getD_eq_getElem?_getD, List.getElem?_eq_getElem h]; simp
theorem take_flat_le (xs : List (List Int)) (k : Nat) : (xs.take k).flatten.length ≤ xs.flatten.length := by
 have h : xs.flatten = (xs.take k).flatten ++ (xs.drop k).flatten := by rw [← List.flatten_append, List.take_append_drop]
 rw [h, List.length_append]; omega
/-- How many bytes the first rows have. -/
def catLen (xs : List (List Int)) (k : Nat) : Nat := (xs.take k).flatten.length
theorem catLen_succ (xs : List (List Int)) (k : Nat) (h : k < xs.length) : catLen xs (k + 1) = catLen xs k + (xs.getD k []).length := by
 unfold catLen; rw [take_flat xs k h, List.length_append]
theorem catLen_le (xs : List (List Int)) (k : Nat) : catLen xs k ≤ catLen xs xs.length := by
 unfold catLen; rw [List.take_length]; exact take_flat_le xs k
def slices_Concat_byte_byte.f (l0 : List (List Int)) : Option (List Int) := if catLen l0 l0.length < 140737488355000 ∧ l0.length < 140737488355000 then some l0.flatten else none
set_option maxHeartbeats 2000000 in
set_option maxRecDepth 100000 in
theorem slices_Concat_byte_byte.calls (A0 : Option Addr) (c0 : Nat) (l0 : List (List Int)) (r : List Int) (w : World) (hr0 : Kd.C (Kd.slice 5 (Kd.int .u8)) w A0 l0.length l0) (hc0 : l0.length ≤ c0) (h : slices_Concat_byte_byte.f l0 = some r) :
  Calls Try.prog 58 #[.slice A0 l0.length c0] w fun e w' => ∃ v0_ : Value, e = .returned (v0_) ∧ Kd.R (Kd.int .u8) 5 w' w.heap.size (fun _ => True) v0_ r ∧ Below w.heap.size w w' := by
 have HR0 := Aside0.mk hr0
 have HC0 := Aside0.mk hc0
 clear hr0 hc0
 unfold slices_Concat_byte_byte.f at h
 by_cases hl : catLen l0 l0.length < 140737488355000 ∧ l0.length < 140737488355000
 ·rw [if_pos hl] at h
  obtain rfl := Option.some.inj h
  clear h
  obtain ⟨hl, hl2⟩ := hl
  go_enter Try.func58, Try.ntmps58
  go_wp2
  go_loop [3, 11] (fun s j => ∃ k : Nat, k ≤ l0.length ∧ j = .int .i64 k ∧ s = .int .i64 (catLen l0 k)) (fun _ j => l0.length - (intOf j).toNat)
  case atStart => exact ⟨0, by omega, rfl, by simp [catLen]⟩
  case round =>
   obtain ⟨k, hk, rfl, rfl⟩ := hrel
   by_cases hlt : k < l0.length
   ·obtain ⟨ad, A1, c1, rfl, hx, hc1, hr1⟩ := concat_at HR0.out k hlt
    have hle := catLen_le l0 (k + 1)
    have hs := catLen_succ l0 k hlt
    generalize hE : (l0.getD k []).length = E at *
    clear hr1
    go_wp2
    go_round
    case rel => exact ⟨k + 1, by omega, by go_num, by rw [hs]; go_num⟩
    case measure => simp [intOf]; omega
   ·obtain rfl : k = l0.length := by omega
    go_wp2_with (go_at_call 66; refine (grow_nil (catLen l0 l0.length : Int) (by omega) (by omega) _).mono ?_; rintro e w3 ⟨v3, rfl, ho, hb⟩; have HO3 := Aside0.mk ho; have HB3 := Aside0.mk hb; clear ho hb)
    go_loopw [6, 27] (fun v j wr => ∃ k : Nat, k ≤ l0.length ∧ j = .int .i64 k ∧ Aside0 (Kd.R (Kd.int .u8) 5 wr w.heap.size (fun _ => True) v (l0.take k).flatten) ∧ Aside0 (Below w.heap.size w wr)) (fun _ j _ => l0.length - (intOf j).toNat)
    case atStart => exact ⟨0, by omega, rfl, HO3, HB3⟩
    case round =>
     obtain ⟨k, hk, rfl, HO4, HB4⟩ := hrel
     by_cases hlt : k < l0.length
     ·obtain ⟨ad, A1, c1, rfl, hx, hc1, hr1⟩ := concat_at (Kd.C_below HR0.out HB4.out) k hlt
      have hle := catLen_le l0 (k + 1)
      have hs := catLen_succ l0 k hlt
      have hck : (l0.take k).flatten.length = catLen l0 k := rfl
      have hfl := take_flat l0 k hlt
      generalize l0.getD k [] = x at *
      have HFL := Aside0.mk hfl
      clear hfl
      have HR1 := Aside0.mk hr1
      clear hr1
      go_wp2_with ((with_reducible refine gate_dst (N := 33) rfl ?_); refine Kd.R_append_row (w0 := w) (Value.int .u8) (0 : Int) w.heap.size rfl _ _ 26 5 (.int .u8 0) 1 rfl Try.underlying26 info5 rfl (by decide) _ (l0.take k).flatten x A1 x.length c1 (fun _ => True) rfl rfl (fun _ _ => trivial) HO4.out HR1.out HB4.out (HB4.out.size) (by rw [hck]; omega) ?_; intro v5 w5 ho5 hb5 hg5 hat5; rw [← HFL.out] at ho5; have HO5 := Aside0.mk ho5; have HB5 := Aside0.mk hb5; clear ho5 hb5 hg5 hat5)
      go_roundw
      case rel => exact ⟨k + 1, by omega, by go_num, HO5, HB5⟩
      case measure => simp [intOf]; omega
     ·obtain rfl : k = l0.length := by omega
      go_wp2
      go_ret
      exact ⟨_, rfl, by have h := HO4.out; rw [List.take_length] at h; exact h, HB4.out⟩
 ·rw [if_neg hl] at h
  exact absurd h (by simp)

/-! ### crc_Table: function 73 -/
/-- One bit of a byte's number. -/
def crcBit (c : Int) : Int := Go.bits .xor .u32 (c / 2) (Go.bits .and .u32 2197175160 ((-(Go.bits .and .u32 c 1)) % 4294967296))
/-- So many bits. -/
def crcBits : Nat → Int → Int
 | 0, c => c
 | n + 1, c => crcBit (crcBits n c)
def crcArr (k : Nat) : Array Value := ((List.range 256).map fun i => Value.int .u32 (if i < k then crcBits 8 (i : Int) else 0)).toArray
theorem crcArr_size (k : Nat) : (crcArr k).size = 256 := by simp [crcArr]
theorem crcArr_set (k : Nat) (h : k < 256) : (crcArr k).setIfInBounds k (Value.int .u32 (crcBits 8 (k : Int))) = crcArr (k + 1) := by
 apply Array.ext
 ·simp [crcArr]
 ·intro i h1 h2
  simp [crcArr_size] at h1 h2
  rw [Array.getElem_setIfInBounds (by simpa [crcArr_size] using h2)]
  simp only [crcArr, List.getElem_toArray, List.getElem_map, List.getElem_range]
  by_cases e : k = i
  ·subst e; simp
  ·simp only [e, if_false]
   by_cases h3 : i < k
   ·simp [h3, show i < k + 1 by omega]
   ·simp [h3, show ¬ i < k + 1 by omega]
theorem crcArr_one (k : Nat) : (crcArr k).all (·.oneCell') = true := by
 rw [Array.all_eq_true]
 intro i h
 simp only [crcArr, List.getElem_toArray, List.getElem_map]
 rfl
theorem crcArr_zero (w : World) : (zeroValue 94).run Try.prog w = .ok (.agg (crcArr 0)) w := by
 have : (zeroValue 94).run Try.prog w = .ok (.agg (Array.replicate 256 (.int .u32 0))) w := by kernel_rfl
 have h2 : crcArr 0 = Array.replicate 256 (.int .u32 0) := by
  apply Array.ext
  ·rw [crcArr_size, Array.size_replicate]
  ·intro i h1 h2
   simp only [crcArr, List.getElem_toArray, List.getElem_map, List.getElem_range, Array.getElem_replicate]
   rfl
 rw [this, h2]
theorem crcOld (w : World) : ((w.alloc (.cells (crcArr 0) 94)).alloc (.cells (crcArr 256) 94)).heap[w.heap.size]? = some (.cells (crcArr 0) 94 (0, 0)) := by
 rw [heap_alloc_old _ _ (by simp), heap_alloc_new]
theorem crcBelow (w : World) : Below w.heap.size w (((w.alloc (.cells (crcArr 0) 94)).alloc (.cells (crcArr 256) 94)).setRow w.heap.size (crcArr 256)) := by
 have h := ((Below.refl w.heap.size w).alloc (Nat.le_refl _) (.cells (crcArr 0) 94)).alloc (by simp) (.cells (crcArr 256) 94)
 exact ⟨h.os, h.tape, h.output, by rw [setRow_size]; exact h.size, fun i hi => by rw [setRow_other _ _ _ _ (by omega)]; exact h.block i hi⟩
theorem crcCell (w : World) (k : Nat) (h : k < 256) : ((w.alloc (.cells (crcArr 0) 94)).alloc (.cells (crcArr k) 94)).cell? ⟨w.heap.size + 1, k, none⟩ = some (.int .u32 0) := by
 rw [cell_of_row _ _ _ _ _ _ (heap_alloc2_new _ _ _), Array.getElem?_eq_getElem (by rw [crcArr_size]; exact h)]
 simp [crcArr]
set_option maxHeartbeats 8000000 in
set_option maxRecDepth 100000 in
theorem crc_Table.calls (w : World) : Calls Try.prog 73 #[] w fun e w' => e = .returned (.agg (crcArr 256)) ∧ Below w.heap.size w w' := by
 have hz := crcArr_zero
 go_enter Try.func73, Try.ntmps73
 go_wp2
 go_loopw [4] (fun i wr => ∃ k : Nat, k ≤ 256 ∧ i = .int .i64 k ∧ wr = (w.alloc (.cells (crcArr 0) 94)).alloc (.cells (crcArr k) 94)) (fun i _ => 256 - (intOf i).toNat)
 case atStart => exact ⟨0, by omega, rfl, rfl⟩
 case round =>
  obtain ⟨k, hk, rfl, rfl⟩ := hrel
  by_cases hlt : k < 256
  ·go_wp2
   go_loop [3, 9] (fun c j => ∃ n : Nat, n ≤ 8 ∧ j = .int .i64 n ∧ c = .int .u32 (crcBits n k)) (fun _ j => 8 - (intOf j).toNat)
   case atStart => exact ⟨0, by omega, rfl, by go_num⟩
   case round =>
    obtain ⟨n, hn, rfl, rfl⟩ := hrel
    by_cases hlt2 : n < 8
    ·go_wp2
     go_round
     case rel => exact ⟨n + 1, by omega, by go_num, rfl⟩
     case measure => simp [intOf]; omega
    ·obtain rfl : n = 8 := by omega
     have hc := crcCell w k hlt
     go_wp2
     go_roundw
     case rel => exact ⟨k + 1, by omega, by go_num, by rw [← crcArr_set k hlt]⟩
     case measure => simp [intOf]; omega
  ·obtain rfl : k = 256 := by omega
   go_wp2_with (first | (refine wpList_load_row rfl 94 (.tmp 1) rfl (w.heap.size + 1) rfl 94 (crcArr 256) (0, 0) _ (heap_alloc2_new _ _ _) Try.underlying94 rfl (by rw [crcArr_size]; kernel_rfl) ?_) | (refine wpList_store_row rfl 94 (.tmp 0) (.tmp 23) rfl w.heap.size (crcArr 256) rfl rfl 94 (crcArr 0) (crcOld w) (by rw [crcArr_size]; kernel_rfl) (by rw [crcArr_size, crcArr_size]) (crcArr_one 256) ?_))
   refine bodyPost_ret (results_cell_row rfl _ _ w.heap.size 94 (crcArr 256) (0, 0) _ rfl (setRow_heap _ _ (crcArr 0) _ 94 (0, 0) (crcOld w)) Try.underlying94 rfl (by rw [crcArr_size]; kernel_rfl)) rfl ⟨rfl, crcBelow w⟩

/-! ### crc_Add: function 71 -/

/-- One byte more. -/
def crcNext (c x : Int) : Int := Go.bits .xor .u32 (crcBits 8 (Go.bits .xor .u8 (c % 256) x)) (c / 256)
def crcFold (c : Int) : List Int → Int
 | [] => c
 | x :: r => crcFold (crcNext c x) r
theorem crcFold_snoc (l : List Int) (x : Int) : ∀ c, crcFold c (l ++ [x]) = crcNext (crcFold c l) x := by
 induction l with
 | nil => intro c; rfl
 | cons y l ih => intro c; exact ih _
theorem crcFold_take (c : Int) (l : List Int) (k : Nat) (h : k < l.length) : crcFold c (l.take (k + 1)) = crcNext (crcFold c (l.take k)) (rd l (k : Int)) := by
 rw [List.take_succ_eq_append_getElem h, crcFold_snoc]
 simp [rd, List.getD_eq_getElem?_getD, List.getElem?_eq_getElem h]
theorem bits_u8 (op : BinOp) (x y : Int) : 0 ≤ Go.bits op .u8 x y ∧ Go.bits op .u8 x y < 256 := by
 unfold Go.bits; rw [Go.IntKind.wrap_u8]; omega
theorem crcCellAt (w : World) (g : Nat) (hg : w.heap[g]? = some (.cells (crcArr 256) 94 (0, 0))) (i : Int) (h0 : 0 ≤ i) (h1 : i < 256) : w.cell? ⟨g, i.toNat, none⟩ = some (.int .u32 (crcBits 8 i)) := by
 rw [cell_of_row _ _ _ _ _ _ hg, Array.getElem?_eq_getElem (by rw [crcArr_size]; omega)]
 simp only [crcArr, List.getElem_toArray, List.getElem_map, List.getElem_range]
 rw [if_pos (by omega), Int.toNat_of_nonneg h0]
theorem crcMade (w0 w1 : World) (hb : Below w0.heap.size w0 w1) : Below w0.heap.size w0 ((w1.alloc (.cells (crcArr 0) 94)).setRow w1.heap.size (crcArr 256)) ∧ ((w1.alloc (.cells (crcArr 0) 94)).setRow w1.heap.size (crcArr 256)).heap[w1.heap.size]? = some (.cells (crcArr 256) 94 (0, 0)) := by
 have h := hb.alloc hb.size (.cells (crcArr 0) 94)
 have hs := hb.size
 exact ⟨⟨h.os, h.tape, h.output, by rw [setRow_size]; exact h.size, fun i hi => by rw [setRow_other _ _ _ _ (by omega)]; exact h.block i hi⟩, setRow_heap _ _ _ _ _ _ (heap_alloc_new _ _)⟩
def crc_Add.f (a0 : Int) (l1 : List Int) : Option Int := some (Go.bits .xor .u32 IntKind.u32.max (crcFold (Go.bits .xor .u32 IntKind.u32.max a0) l1))
set_option maxHeartbeats 8000000 in
set_option maxRecDepth 100000 in
theorem crc_Add.calls (a0 : Int) (A1 : Option Addr) (c1 : Nat) (l1 : List Int) (r : Int) (w : World) (hr1 : Kd.C (Kd.int .u8) w A1 l1.length l1) (hc1 : l1.length ≤ c1) (h : crc_Add.f a0 l1 = some r) :
  Calls Try.prog 71 #[.int .u32 a0, .slice A1 l1.length c1] w fun e w' => e = .returned (.int .u32 r) ∧ Below w.heap.size w w' := by
 have HR1 := Aside0.mk hr1
 clear hr1 hc1
 have H := Aside0.mk h
 clear h
 have hz := crcArr_zero
 go_enter Try.func71, Try.ntmps71
 go_wp2_with (first | (go_at_call 73; refine (crc_Table.calls _).mono ?_; rintro e w1 ⟨rfl, hb⟩) | (refine wpList_store_row rfl 94 (.tmp 5) (.tmp 9) rfl _ (crcArr 256) rfl rfl 94 (crcArr 0) (heap_alloc_new _ _) (by rw [crcArr_size]; kernel_rfl) (by rw [crcArr_size, crcArr_size]) (crcArr_one 256) ?_))
 obtain ⟨HB, hg⟩ := crcMade w w1 hb
 have HBA := Aside0.mk HB
 have HG := Aside0.mk hg
 clear HB hg hz
 obtain ⟨g, hgd⟩ : ∃ g, w1.heap.size = g := ⟨_, rfl⟩
 obtain ⟨w2, hw2⟩ : ∃ w2, (w1.alloc (.cells (crcArr 0) 94)).setRow w1.heap.size (crcArr 256) = w2 := ⟨_, rfl⟩
 rw [hw2] at HBA HG ⊢
 rw [hgd] at HG ⊢
 clear hw2 hgd hb
 have HM := Aside0.mk (Kd.C_max HR1.out)
 go_loop [6, 14] (fun c j => ∃ k : Nat, k ≤ l1.length ∧ j = .int .i64 k ∧ c = .int .u32 (crcFold (Go.bits .xor .u32 IntKind.u32.max a0) (l1.take k))) (fun _ j => l1.length - (intOf j).toNat)
 case atStart => exact ⟨0, by omega, rfl, rfl⟩
 case round =>
  obtain ⟨k, hk, rfl, rfl⟩ := hrel
  have hmax := HM.out
  by_cases hlt : k < l1.length
  ·obtain ⟨ad, e1, hx⟩ := Kd.at_int HR1.out (k : Int) (by omega) (by omega)
   cases e1
   replace hx := (HBA.out.cell (World.block_lt_of_cell? w _ hx)).trans hx
   rw [Int.toNat_natCast] at hx
   have HS := Aside0.mk (crcFold_take (Go.bits .xor .u32 IntKind.u32.max a0) l1 k hlt)
   generalize crcFold (Go.bits .xor .u32 IntKind.u32.max a0) (l1.take k) = c at HS ⊢
   obtain ⟨hi0, hi1⟩ := bits_u8 .xor (c % 256) (rd l1 (k : Int))
   have ht := crcCellAt w2 g HG.out (Go.bits .xor .u8 (c % 256) (rd l1 (k : Int))) hi0 hi1
   go_wp2
   go_round
   case rel => exact ⟨k + 1, by omega, by go_num, by rw [HS.out]; rfl⟩
   case measure => simp [intOf]; omega
  ·obtain rfl : k = l1.length := by omega
   go_wp2
   go_ret
   exact ⟨congrArg (fun z => Ending.returned (.int .u32 z)) (Option.some.inj H.out), HBA.out⟩

/-! ### crc_Sum: function 67 -/
def crc_Sum.f (l0 : List Int) : Option (Int) := (crc_Add.f 0 l0).bind fun t140 => (some t140)
set_option maxHeartbeats 8000000 in
set_option maxRecDepth 100000 in
theorem crc_Sum.calls (A0 : Option Addr) (c0 : Nat) (l0 : List Int) (r : Int) (w : World) (hr0 : Kd.C (Kd.int .u8) w A0 l0.length l0) (hc0 : l0.length ≤ c0) (h : crc_Sum.f l0 = some r) :
  Calls Try.prog 67 #[.slice A0 l0.length c0] w fun e w' => e = .returned (.int .u32 r) ∧ Below w.heap.size w w' := by
 have HR0 := Aside0.mk hr0
 have HC0 := Aside0.mk hc0
 clear hr0 hc0
 have HB := Aside0.mk (Below.refl w.heap.size w)
 have H : ((crc_Add.f 0 l0).bind fun t140 => (some t140)) = some r := h
 clear h
 replace H := Option.bind_eq_some_iff.mp H
 obtain ⟨t140, A20, H⟩ := H
 replace H : (some t140) = some r := H
 have A2 := Aside0.mk A20
 clear A20
 obtain rfl := Option.some.inj H
 go_enter Try.func67, Try.ntmps67
 go_wp2_with (first | ((with_reducible refine gate_callee (f := 71) rfl ?_); refine goesL_ (some 4) rfl rfl Try.func71 (by kernel_rfl) rfl #[.int .u32 0, .slice A0 l0.length c0] rfl (by (try simp only [List.map_toArray, List.map_cons, List.map_nil]); first | done | rfl | (simp only [List.length_drop, List.length_take]; rfl)) ?_; (with_reducible refine (crc_Add.calls 0 _ _ l0 t140 _ ?side1 ?side2 A2.out).mono ?_); (case side1 => repeat (first | exact HR0.out | (with_reducible refine Kd.C_alloc ?_ _) | (with_reducible refine Kd.C_drewN ?_ _) | (with_reducible refine Kd.C_drew ?_))); (case side2 => exact HC0.out); rintro e w3 ⟨rfl, hb⟩; refine ⟨_, rfl, ?_⟩; have n0_ := Aside0.mk (below_step (by repeat (first | (with_reducible first | exact HB.out | apply below_alloc | apply pw_below_drewN | apply below_drew1) | exact HB.out)) hb); clear HB; have HB := n0_; clear n0_; (try clear hb); (try clear hb2); (try clear hk); (try clear hi)))
 go_ret
 exact ⟨by first | rfl | (simp [errW_none, errW_some] <;> rfl) | (simp [*, errW_none, errW_some] <;> rfl), by repeat (first | (with_reducible first | exact HB.out | apply below_alloc | apply pw_below_drewN | apply below_drew1) | exact HB.out)⟩

/-! ### frame_Seal: function 59 -/
/-- The four bytes of a sum, so many of them laid, behind bytes. -/
def sealRow (l : List Int) (n : Int) : Nat → List Int
 | 0 => l ++ [0, 0, 0, 0]
 | 1 => l ++ [n % 256, 0, 0, 0]
 | 2 => l ++ [n % 256, n / 256 % 256, 0, 0]
 | 3 => l ++ [n % 256, n / 256 % 256, n / 65536 % 256, 0]
 | _ => l ++ [n % 256, n / 256 % 256, n / 65536 % 256, n / 16777216 % 256]
def frame_Seal.f (l0 : List Int) : Option (List Int) := if l0.length + 4 < 140737488355000 then (crc_Sum.f l0).bind fun n => some (sealRow l0 n 4) else none
set_option maxHeartbeats 8000000 in
set_option maxRecDepth 100000 in
theorem frame_Seal.calls (A0 : Option Addr) (c0 : Nat) (l0 : List Int) (r : List Int) (w : World) (hr0 : Kd.C (Kd.int .u8) w A0 l0.length l0) (hc0 : l0.length ≤ c0) (h : frame_Seal.f l0 = some r) :
  Calls Try.prog 59 #[.slice A0 l0.length c0] w fun e w' => ∃ v0_ : Value, e = .returned (v0_) ∧ Kd.R (Kd.int .u8) 5 w' w.heap.size (fun _ => True) v0_ r ∧ Below w.heap.size w w' := by
 have HR0 := Aside0.mk hr0
 have HC0 := Aside0.mk hc0
 clear hr0 hc0
 unfold frame_Seal.f at h
 by_cases hl : l0.length + 4 < 140737488355000
 ·rw [if_pos hl] at h
  obtain ⟨n, hn, h⟩ := Option.bind_eq_some_iff.mp h
  obtain rfl := Option.some.inj h
  have HN := Aside0.mk hn
  clear hn
  have hN : (List.replicate ((l0.length : Int) + 4).toNat (0 : Int)).length = l0.length + 4 := by rw [List.length_replicate]; omega
  have HN4 := Aside0.mk hN
  have H0 := Aside0.mk (show l0.take (min l0.length (List.replicate ((l0.length : Int) + 4).toNat (0 : Int)).length) ++ (List.replicate ((l0.length : Int) + 4).toNat (0 : Int)).drop (min l0.length (List.replicate ((l0.length : Int) + 4).toNat (0 : Int)).length) = sealRow l0 n 0 from by
   rw [hN, show min l0.length (l0.length + 4) = l0.length by omega, List.take_length, List.drop_replicate, show ((l0.length : Int) + 4).toNat - l0.length = 4 by omega]; rfl)
  clear hN
  obtain ⟨i5, hi5, _, hsz5, _⟩ := info_parts info5
  go_enter Try.func59, Try.ntmps59
  go_wp2_with (first
   | ((with_reducible refine gate_dst (N := 9) rfl ?_); refine Kd.R_make (Kd.int .u8) (w0 := w) w.heap.size 5 rfl (N := 9) rfl 26 _ _ rfl ((l0.length : Int) + 4) rfl rfl Try.underlying26 (.int .u8 0) 1 info5 rfl (by decide) (by decide) 0 (ok := fun _ => True) (okp := fun _ => True) rfl (fun _ _ => trivial) trivial (by omega) (by omega) (Below.refl _ _) (Nat.le_refl _) ?_; intro v1 w1 ho hb hg hat; obtain ⟨g, cap, rfl, hrest⟩ := Kd.R_form ho (by rw [HN4.out]; omega); have HG := Aside0.mk hrest.1; clear hrest hg hat; rw [HN4.out] at ho ⊢; have HO1 := Aside0.mk ho; have HB1 := Aside0.mk hb; clear ho hb; obtain ⟨A5, hcut5, _⟩ := print_cut_of (P := Try.prog) (Value.int .u8) (0 : Int) 26 5 .i64 Try.underlying26 hi5 hsz5 (some ⟨g, 0, none⟩) (l0.length + 4) cap l0.length (by omega); rw [show l0.length + 4 - l0.length = 4 by omega] at hcut5)
   | ((with_reducible refine gate_builtin (b := .copy) (xs := #[.tmp 10, .tmp 11]) rfl ?_); refine Hand.copyR rfl (.tmp 10) (.tmp 11) 26 26 rfl 5 Try.underlying26 (by kernel_rfl) (k := .u8) rfl (sp := A0) (sLen := l0.length) (sCap := c0) (ys := l0) rfl HO1.out (Kd.C_below HR0.out HB1.out) HB1.out (Nat.le_refl _) ?_; intro w2 ho2 hb2 hg2; rw [H0.out] at ho2; have HO2 := Aside0.mk ho2; have HB2 := Aside0.mk hb2; clear ho2 hb2 hg2 HO1 HB1)
   | (go_at_call 67; refine (crc_Sum.calls A0 c0 l0 n _ (Kd.C_below HR0.out HB2.out) HC0.out HN.out).mono ?_; rintro e w3 ⟨rfl, hb⟩; have HO3 := Aside0.mk (Kd.R_below HO2.out hb); have HB3 := Aside0.mk (below_step HB2.out hb); clear hb HO2 HB2))
  go_loopw [20] (fun j wr => ∃ k : Nat, k ≤ 4 ∧ j = .int .i64 k ∧ Aside0 (Kd.R (Kd.int .u8) 5 wr w.heap.size (fun _ => True) (.slice (some ⟨g, 0, none⟩) (l0.length + 4) cap) (sealRow l0 n k)) ∧ Aside0 (Below w.heap.size w wr)) (fun j _ => 4 - (intOf j).toNat)
  case atStart => exact ⟨0, by omega, rfl, HO3, HB3⟩
  case round =>
   obtain ⟨k, hk, rfl, HO4, HB4⟩ := hrel
   by_cases hlt : k < 4
   ·obtain ⟨hce, hfr⟩ := Kd.R_celln 0 HO4.out ((l0.length : Int) + (k : Int)) (by omega) (by push_cast; omega)
    rw [show ((l0.length : Int) + (k : Int)).toNat = l0.length + k by omega] at hce hfr
    have hp := Kd.R_putn HO4.out ((l0.length : Int) + (k : Int)) (n / 2 ^ (8 * k) % 256)
    rw [show ((l0.length : Int) + (k : Int)).toNat = l0.length + k by omega] at hp
    have hset : (sealRow l0 n k).set (l0.length + k) (n / 2 ^ (8 * k) % 256) = sealRow l0 n (k + 1) := by
     match k, hlt with
     | 0, _ => simp [sealRow]
     | 1, _ => simp [sealRow]
     | 2, _ => simp [sealRow]
     | 3, _ => simp [sealRow]
    rw [hset] at hp
    have hb : Below w.heap.size w (wr.setCell ⟨g, l0.length + k, none⟩ (.int .u8 (n / 2 ^ (8 * k) % 256))) := HB4.out.setCell (p := ⟨g, l0.length + k, none⟩) HG.out _
    go_wp2
    go_roundw
    case rel => exact ⟨k + 1, by omega, by go_num, Aside0.mk hp, Aside0.mk hb⟩
    case measure => simp [intOf]; omega
   ·obtain rfl : k = 4 := by omega
    go_wp2
    go_ret
    exact ⟨_, rfl, HO4.out, HB4.out⟩
 ·rw [if_neg hl] at h
  exact absurd h (by simp)

end Go.Proofs.Ytaiechbdcddalaa.Print
