-- Written by a program of this session (wip/cprint.py), which calls the kit's print and adds contracts proved by hand.
import Derived.Test.YtnkjbgoibmbmoaaPrint0
import Derived.Test.YtnkjbgoibmbmoaaPrint1
namespace Go.Proofs.Ytnkjbgoibmbmoaa.Print
open Go.RowKit Go.Proofs.YtnkjbgoibmbmoaaW.PrintWords Go.Proofs.YtnkjbgoibmbmoaaW.PrintLast Go.Proofs.YtnkjbgoibmbmoaaW.PrintMore
attribute [local go_sem] max2_int min2_int max_two min_two max_three min_three max_four min_four   -- for this text's walks alone
set_option linter.unusedVariables false
set_option linter.unusedSimpArgs false

/-! ### vary_Take: function 31 -/
mutual
def vary_Take.l0 : Nat → List Int → Int → List Int → Int → Int → Option (Int × List Int × Int)
 | 0, _, _, _, _, _ => none
 | k + 1, x0, x5, x8, x9, x10 => if x10 < x9 then (if 0 ≤ x10 then (if x10 < (x8.length : Int) then (if 0 ≤ (wrap64 (7 * x10)) then (if x10 ≥ 10 then (if (x0.length : Int) < 10 then (some (0, ([] : List Int), 5)) else (some (0, ([] : List Int), 6))) else (if (rd x8 x10) ≥ 128 then (vary_Take.l0 k x0 (Go.bits .or .u64 x5 (shl .u64 (IntKind.u64.wrap (Go.bits .andNot .u8 (rd x8 x10) 128)) (wrap64 (7 * x10)))) x8 x9 (wrap64 (x10 + 1))) else (if (rd x8 x10) = 0 then (vary_Take.j1 k x0 (Go.bits .or .u64 x5 (shl .u64 (IntKind.u64.wrap (Go.bits .andNot .u8 (rd x8 x10) 128)) (wrap64 (7 * x10)))) x10 (rd x8 x10) (decide (x10 > 0))) else (vary_Take.j1 k x0 (Go.bits .or .u64 x5 (shl .u64 (IntKind.u64.wrap (Go.bits .andNot .u8 (rd x8 x10) 128)) (wrap64 (7 * x10)))) x10 (rd x8 x10) false)))) else (none)) else (none)) else (none)) else (if (x0.length : Int) < 10 then (some (0, ([] : List Int), 5)) else (some (0, ([] : List Int), 6)))
def vary_Take.j1 : Nat → List Int → Int → Int → Int → Bool → Option (Int × List Int × Int)
 | 0, _, _, _, _, _ => none
 | k + 1, x0, x5, x6, x7, x35 => if x35 = true then (some (0, ([] : List Int), 6)) else (if x6 = 9 then (if x7 > 1 then (some (0, ([] : List Int), 6)) else (if 0 ≤ (wrap64 (x6 + 1)) then (if (wrap64 (x6 + 1)) ≤ (x0.length : Int) then ((slices_Clone_byte_byte.f (x0.drop ((wrap64 (x6 + 1)) : Int).toNat)).bind fun t245 => (some (x5, t245, 0))) else (none)) else (none))) else (if 0 ≤ (wrap64 (x6 + 1)) then (if (wrap64 (x6 + 1)) ≤ (x0.length : Int) then ((slices_Clone_byte_byte.f (x0.drop ((wrap64 (x6 + 1)) : Int).toNat)).bind fun t249 => (some (x5, t249, 0))) else (none)) else (none)))
end
def vary_Take.f (k : Nat) (l0 : List Int) : Option (Int × List Int × Int) := vary_Take.l0 k l0 0 l0 (l0.length : Int) 0
theorem vary_Take.mono_l : ∀ k, (∀ y0 y1 y2 y3 y4, LeO (vary_Take.l0 k y0 y1 y2 y3 y4) (vary_Take.l0 (k + 1) y0 y1 y2 y3 y4)) ∧ (∀ y0 y1 y2 y3 y4, LeO (vary_Take.j1 k y0 y1 y2 y3 y4) (vary_Take.j1 (k + 1) y0 y1 y2 y3 y4))
 | 0 => ⟨fun _ _ _ _ _ r h => by simp [vary_Take.l0] at h, fun _ _ _ _ _ r h => by simp [vary_Take.j1] at h⟩
 | k + 1 => by
  obtain ⟨ih0, ih1⟩ := vary_Take.mono_l k
  refine ⟨?_, ?_⟩
  ·intro y0 y1 y2 y3 y4
   unfold vary_Take.l0
   repeat' first
   | (with_reducible exact ih0 _ _ _ _ _)
   | (with_reducible exact ih1 _ _ _ _ _)
   | (with_reducible exact LeO.refl _)
   | (with_reducible exact LeO.none _)
   | (with_reducible refine LeO.ite ?_ ?_)
   | (with_reducible refine LeO.bind ?_ (fun _ => ?_))
   | exact ih0 _ _ _ _ _
   | exact ih1 _ _ _ _ _
   | exact LeO.none _
   | refine LeO.ite ?_ ?_
   | refine LeO.bind ?_ (fun _ => ?_)
  ·intro y0 y1 y2 y3 y4
   unfold vary_Take.j1
   repeat' first
   | (with_reducible exact ih0 _ _ _ _ _)
   | (with_reducible exact ih1 _ _ _ _ _)
   | (with_reducible exact LeO.refl _)
   | (with_reducible exact LeO.none _)
   | (with_reducible refine LeO.ite ?_ ?_)
   | (with_reducible refine LeO.bind ?_ (fun _ => ?_))
   | exact ih0 _ _ _ _ _
   | exact ih1 _ _ _ _ _
   | exact LeO.none _
   | refine LeO.ite ?_ ?_
   | refine LeO.bind ?_ (fun _ => ?_)
theorem vary_Take.mono : ∀ a0 k, LeO (vary_Take.f k a0) (vary_Take.f (k + 1) a0) := by
 intro a0 k
 obtain ⟨ih0, ih1⟩ := vary_Take.mono_l k
 unfold vary_Take.f
 repeat' first
   | (with_reducible exact ih0 _ _ _ _ _)
   | (with_reducible exact ih1 _ _ _ _ _)
   | (with_reducible exact LeO.refl _)
   | (with_reducible exact LeO.none _)
   | (with_reducible refine LeO.ite ?_ ?_)
   | (with_reducible refine LeO.bind ?_ (fun _ => ?_))
   | exact ih0 _ _ _ _ _
   | exact ih1 _ _ _ _ _
   | exact LeO.none _
   | refine LeO.ite ?_ ?_
   | refine LeO.bind ?_ (fun _ => ?_)
set_option maxHeartbeats 8000000 in
set_option maxRecDepth 100000 in
theorem vary_Take.calls (k : Nat) (A0 : Option Addr) (c0 : Nat) (l0 : List Int) (r1 : Int) (r2 : List Int) (r3 : Int) (w : World) (hr0 : Kd.C (Kd.int .u8) w A0 l0.length l0) (hc0 : l0.length ≤ c0) (h : vary_Take.f k l0 = some (r1, r2, r3)) :
  Calls Try.prog 31 #[.slice A0 l0.length c0] w fun e w' => ∃ v1_ : Value, e = .returned (.tuple #[.int .u64 r1, v1_, .int .i64 r3]) ∧ Kd.R (Kd.int .u8) 5 w' w.heap.size (fun _ => True) v1_ r2 ∧ Below w.heap.size w w' := by
 have HR0 := Aside0.mk hr0
 have HC0 := Aside0.mk hc0
 clear hr0 hc0
 have HB := Aside0.mk (Below.refl w.heap.size w)
 have H : (vary_Take.l0 k l0 0 l0 (l0.length : Int) 0) = some (r1, r2, r3) := h
 clear h
 have H' := Aside0.mk H
 clear H
 go_enter Try.func31, Try.ntmps31
 go_wp2;go_step3
 go_wp2
 go_step3
 go_wp2
 go_loopg [5, 10] k (fun kq v5 v10 w' => ∃ (x5_1 : Int) (x10_1 : Int), v5 = .int .u64 x5_1 ∧ v10 = .int .i64 x10_1 ∧ Aside0 (vary_Take.l0 kq l0 x5_1 l0 (l0.length : Int) x10_1 = some (r1, r2, r3)) ∧ Aside0 (kq ≤ k) ∧ Aside0 (Below w.heap.size w w'))
 case atStart => exact ⟨(0), (0), (by first | rfl | (simp; done) | (simp [*]; done)), (by first | rfl | (simp; done) | (simp [*]; done)), H', ⟨Nat.le_refl _⟩, ⟨by repeat (first | (with_reducible first | exact HB.out | apply below_alloc | apply pw_below_drewN | apply below_drew1) | exact HB.out)⟩⟩
 case round =>
  clear H'
  obtain ⟨x5_1, x10_1, rfl, rfl, HA, HK1, HB⟩ := hrel
  cases gk with
  | zero => exact absurd HA.out (by simp [vary_Take.l0])
  | succ k1 =>
   have H := HA.out
   clear HA
   simp only [vary_Take.l0] at H
   by_cases c2 : x10_1 < (l0.length : Int)
   ·rw [if_pos c2] at H
    have c2b0 : decide (x10_1 < (l0.length : Int)) = true := decide_eq_true c2
    clear c2
    by_cases c3 : 0 ≤ x10_1
    ·rw [if_pos c3] at H
     have c3b0 : decide (0 ≤ x10_1) = true := decide_eq_true c3
     clear c3
     by_cases c4 : x10_1 < (l0.length : Int)
     ·rw [if_pos c4] at H
      have c4b0 : decide (x10_1 < (l0.length : Int)) = true := decide_eq_true c4
      clear c4
      obtain ⟨ji5, hji5⟩ : ∃ j_ : Int, (wrap64 (7 * x10_1)) = j_ := ⟨_, rfl⟩
      replace H : (if 0 ≤ (ji5) then (if x10_1 ≥ 10 then (if (l0.length : Int) < 10 then (some (0, ([] : List Int), 5)) else (some (0, ([] : List Int), 6))) else (if (rd l0 x10_1) ≥ 128 then (vary_Take.l0 k1 l0 (Go.bits .or .u64 x5_1 (shl .u64 (IntKind.u64.wrap (Go.bits .andNot .u8 (rd l0 x10_1) 128)) (ji5))) l0 (l0.length : Int) (wrap64 (x10_1 + 1))) else (if (rd l0 x10_1) = 0 then (vary_Take.j1 k1 l0 (Go.bits .or .u64 x5_1 (shl .u64 (IntKind.u64.wrap (Go.bits .andNot .u8 (rd l0 x10_1) 128)) (ji5))) x10_1 (rd l0 x10_1) (decide (x10_1 > 0))) else (vary_Take.j1 k1 l0 (Go.bits .or .u64 x5_1 (shl .u64 (IntKind.u64.wrap (Go.bits .andNot .u8 (rd l0 x10_1) 128)) (ji5))) x10_1 (rd l0 x10_1) false)))) else (none)) = some (r1, r2, r3) := by first | (rw [hji5] at H; exact H) | (simp only [hji5] at H ⊢; exact H)
      have hji5w : (IntKind.i64.wrap (7 * x10_1)) = ji5 := (i64_w _).trans hji5
      by_cases c6 : 0 ≤ (ji5)
      ·rw [if_pos c6] at H
       have c6b0 := eq_true c6
       have c6b1 : decide (0 ≤ (ji5)) = true := decide_eq_true c6
       clear c6
       obtain ⟨ji7, hji7⟩ : ∃ j_ : Int, (shl .u64 (IntKind.u64.wrap (Go.bits .andNot .u8 (rd l0 x10_1) 128)) (ji5)) = j_ := ⟨_, rfl⟩
       replace H : (if x10_1 ≥ 10 then (if (l0.length : Int) < 10 then (some (0, ([] : List Int), 5)) else (some (0, ([] : List Int), 6))) else (if (rd l0 x10_1) ≥ 128 then (vary_Take.l0 k1 l0 (Go.bits .or .u64 x5_1 (ji7)) l0 (l0.length : Int) (wrap64 (x10_1 + 1))) else (if (rd l0 x10_1) = 0 then (vary_Take.j1 k1 l0 (Go.bits .or .u64 x5_1 (ji7)) x10_1 (rd l0 x10_1) (decide (x10_1 > 0))) else (vary_Take.j1 k1 l0 (Go.bits .or .u64 x5_1 (ji7)) x10_1 (rd l0 x10_1) false)))) = some (r1, r2, r3) := by first | (rw [hji7] at H; exact H) | (simp only [hji7] at H ⊢; exact H)
       have hji7_ : (IntKind.u64.wrap ((IntKind.u64.wrap (Go.bits .andNot .u8 (rd l0 x10_1) 128)) * 2 ^ min (ji5).toNat 64)) = ji7 := hji7
       have hji7z : (ji5) ≤ 64 → (IntKind.u64.wrap ((IntKind.u64.wrap (Go.bits .andNot .u8 (rd l0 x10_1) 128)) * 2 ^ (ji5).toNat)) = ji7 := shl_small hji7
       by_cases c8 : x10_1 ≥ 10
       ·rw [if_pos c8] at H
        have c8b0 : decide (10 ≤ x10_1) = true := decide_eq_true c8
        clear c8
        by_cases c9 : (l0.length : Int) < 10
        ·rw [if_pos c9] at H
         have c9b0 : decide ((l0.length : Int) < 10) = true := decide_eq_true c9
         have c9b1 : decide (l0.length < 10) = true := decide_eq_true (by omega)
         clear c9
         simp only [Option.some.injEq, Prod.mk.injEq] at H
         obtain ⟨rfl, rfl, rfl⟩ := H
         have p243 : 0 ≤ (x10_1 : Int) := of_decide_eq_true (by first | (with_reducible assumption) | assumption)
         have q243 : x10_1 < (l0.length : Int) := of_decide_eq_true (by first | (with_reducible assumption) | assumption)
         obtain ⟨ad243, e243, hx243_0⟩ := Kd.at_int HR0.out x10_1 p243 q243
         cases e243
         try replace hx243_0 := (HB.out.cell (World.block_lt_of_cell? w _ hx243_0)).trans hx243_0
         replace p243 := eq_true p243
         replace q243 := eq_true q243
         go_wp2
         try rw [Exit.noGoto_ret]
         go_ret3
         exact ⟨_, by first | rfl | (simp [errW_none, errW_some] <;> rfl) | (simp only [← hji5, ← hji7]; first | rfl | (simp [errW_none, errW_some] <;> rfl)) | (simp [*, errW_none, errW_some] <;> rfl), by first | exact Kd.R_nil _ _ _ _ _ | exact Kd.N_nil _ _ _ _ _ | exact Kd.V_nil _ _ _ _ _ | exact Kd.Q_nil _ _ _ _ _ | exact Kd.S_nil _ _ _ _ _, by repeat (first | (with_reducible first | exact HB.out | apply below_alloc | apply pw_below_drewN | apply below_drew1) | exact HB.out)⟩
        ·rw [if_neg c9] at H
         have c9b0 : decide ((l0.length : Int) < 10) = false := decide_eq_false c9
         have c9b1 : decide (l0.length < 10) = false := decide_eq_false (by omega)
         clear c9
         simp only [Option.some.injEq, Prod.mk.injEq] at H
         obtain ⟨rfl, rfl, rfl⟩ := H
         have p243 : 0 ≤ (x10_1 : Int) := of_decide_eq_true (by first | (with_reducible assumption) | assumption)
         have q243 : x10_1 < (l0.length : Int) := of_decide_eq_true (by first | (with_reducible assumption) | assumption)
         obtain ⟨ad243, e243, hx243_0⟩ := Kd.at_int HR0.out x10_1 p243 q243
         cases e243
         try replace hx243_0 := (HB.out.cell (World.block_lt_of_cell? w _ hx243_0)).trans hx243_0
         replace p243 := eq_true p243
         replace q243 := eq_true q243
         go_wp2
         try rw [Exit.noGoto_ret]
         go_ret3
         exact ⟨_, by first | rfl | (simp [errW_none, errW_some] <;> rfl) | (simp only [← hji5, ← hji7]; first | rfl | (simp [errW_none, errW_some] <;> rfl)) | (simp [*, errW_none, errW_some] <;> rfl), by first | exact Kd.R_nil _ _ _ _ _ | exact Kd.N_nil _ _ _ _ _ | exact Kd.V_nil _ _ _ _ _ | exact Kd.Q_nil _ _ _ _ _ | exact Kd.S_nil _ _ _ _ _, by repeat (first | (with_reducible first | exact HB.out | apply below_alloc | apply pw_below_drewN | apply below_drew1) | exact HB.out)⟩
       ·rw [if_neg c8] at H
        have c8b0 : decide (10 ≤ x10_1) = false := decide_eq_false c8
        clear c8
        by_cases c10 : (rd l0 x10_1) ≥ 128
        ·rw [if_pos c10] at H
         have c10b0 : decide (128 ≤ (rd l0 x10_1)) = true := decide_eq_true c10
         clear c10
         have H' := Aside0.mk H
         clear H
         have p243 : 0 ≤ (x10_1 : Int) := of_decide_eq_true (by first | (with_reducible assumption) | assumption)
         have q243 : x10_1 < (l0.length : Int) := of_decide_eq_true (by first | (with_reducible assumption) | assumption)
         obtain ⟨ad243, e243, hx243_0⟩ := Kd.at_int HR0.out x10_1 p243 q243
         cases e243
         try replace hx243_0 := (HB.out.cell (World.block_lt_of_cell? w _ hx243_0)).trans hx243_0
         replace p243 := eq_true p243
         replace q243 := eq_true q243
         go_wp2
         go_roundg k1
         case measure => have := HK1.out; omega
         case rel => exact ⟨(Go.bits .or .u64 x5_1 (ji7)), (wrap64 (x10_1 + 1)), (by first | rfl | (simp; done) | (simp only [← hji7] <;> (first | rfl | simp)) | (simp [*]; done)), (by first | rfl | (simp; done) | (simp [*]; done)), H', ⟨by have := HK1.out; omega⟩, ⟨by repeat (first | (with_reducible first | exact HB.out | apply below_alloc | apply pw_below_drewN | apply below_drew1) | exact HB.out)⟩⟩
        ·rw [if_neg c10] at H
         have c10b0 : decide (128 ≤ (rd l0 x10_1)) = false := decide_eq_false c10
         clear c10
         have HC11 := Aside0.mk H
         clear H
         have p243 : 0 ≤ (x10_1 : Int) := of_decide_eq_true (by first | (with_reducible assumption) | assumption)
         have q243 : x10_1 < (l0.length : Int) := of_decide_eq_true (by first | (with_reducible assumption) | assumption)
         obtain ⟨ad243, e243, hx243_0⟩ := Kd.at_int HR0.out x10_1 p243 q243
         cases e243
         try replace hx243_0 := (HB.out.cell (World.block_lt_of_cell? w _ hx243_0)).trans hx243_0
         replace p243 := eq_true p243
         replace q243 := eq_true q243
         go_upto_region 9 with (fail)
         go_cut [35] (fun v35 wc => ∃ (kq : Nat) (x35_10 : Bool), v35 = .bool x35_10 ∧ Aside0 (vary_Take.j1 kq l0 (Go.bits .or .u64 x5_1 (ji7)) x10_1 (rd l0 x10_1) x35_10 = some (r1, r2, r3)) ∧ Aside0 (kq ≤ k1) ∧ Aside0 (Below w.heap.size w wc))
         case first =>
          have H := HC11.out
          clear HC11
          by_cases c12 : (rd l0 x10_1) = 0
          ·rw [if_pos c12] at H
           have c12b0 : ((rd l0 x10_1) == 0) = true := beq_iff_eq.mpr c12
           have c12b1 : ((rd l0 x10_1) != 0) = false := bne_eq_false_iff_eq.mpr c12
           clear c12
           (first | rw [c12b0] | (simp only [i64_w, i32_w]; rw [c12b0]) | skip)
           have H' := Aside0.mk H
           clear H
           go_wp2
           go_meet
           case rel => exact ⟨_, (decide (x10_1 > 0)), (by first | rfl | (simp; done) | (simp [*]; done)), H', ⟨by have := HK1.out; first | omega | exact Nat.le_refl _⟩, ⟨by repeat (first | (with_reducible first | exact HB.out | apply below_alloc | apply pw_below_drewN | apply below_drew1) | exact HB.out)⟩⟩
          ·rw [if_neg c12] at H
           have c12b0 : ((rd l0 x10_1) == 0) = false := beq_eq_false_iff_ne.mpr c12
           have c12b1 : ((rd l0 x10_1) != 0) = true := bne_iff_ne.mpr c12
           (first | rw [c12b0] | (simp only [i64_w, i32_w]; rw [c12b0]) | skip)
           have H' := Aside0.mk H
           clear H
           go_wp2
           go_meet
           case rel => exact ⟨_, (false), (by first | rfl | (simp; done) | (simp [*]; done)), H', ⟨by have := HK1.out; first | omega | exact Nat.le_refl _⟩, ⟨by repeat (first | (with_reducible first | exact HB.out | apply below_alloc | apply pw_below_drewN | apply below_drew1) | exact HB.out)⟩⟩
         case rest =>
          clear HC11
          try clear c1
          try clear c2
          try clear c2b0
          try clear p2
          try clear q2
          try clear hx2
          try clear c3
          try clear c3b0
          try clear c4
          try clear c4b0
          try clear c6
          try clear c6b0
          try clear c6b1
          try clear p6
          try clear c8
          try clear c8b0
          try clear c9
          try clear c9b0
          try clear c9b1
          try clear c10
          try clear c10b0
          try clear c12
          try clear c12b0
          try clear c12b1
          try clear hx243_0
          try clear p243
          try clear q243
          obtain ⟨kq, x35_10, rfl, HA, HJ10, HB⟩ := hcut
          cases kq with
          | zero => exact absurd HA.out (by simp [vary_Take.j1])
          | succ kj10 =>
           have H := HA.out
           clear HA
           simp only [vary_Take.j1] at H
           by_cases c13 : x35_10 = true
           ·subst c13
            have H1 : (some (0, ([] : List Int), 6)) = some (r1, r2, r3) := by rw [if_pos rfl] at H; exact H
            clear H
            have H := H1
            clear H1
            simp only [Option.some.injEq, Prod.mk.injEq] at H
            obtain ⟨rfl, rfl, rfl⟩ := H
            go_wp2
            try rw [Exit.noGoto_ret]
            go_ret3
            exact ⟨_, by first | rfl | (simp [errW_none, errW_some] <;> rfl) | (simp only [← hji5, ← hji7]; first | rfl | (simp [errW_none, errW_some] <;> rfl)) | (simp [*, errW_none, errW_some] <;> rfl), by first | exact Kd.R_nil _ _ _ _ _ | exact Kd.N_nil _ _ _ _ _ | exact Kd.V_nil _ _ _ _ _ | exact Kd.Q_nil _ _ _ _ _ | exact Kd.S_nil _ _ _ _ _, by repeat (first | (with_reducible first | exact HB.out | apply below_alloc | apply pw_below_drewN | apply below_drew1) | exact HB.out)⟩
           ·replace c13 := Bool.eq_false_iff.mpr c13
            subst c13
            have H1 : (if x10_1 = 9 then (if (rd l0 x10_1) > 1 then (some (0, ([] : List Int), 6)) else (if 0 ≤ (wrap64 (x10_1 + 1)) then (if (wrap64 (x10_1 + 1)) ≤ (l0.length : Int) then ((slices_Clone_byte_byte.f (l0.drop ((wrap64 (x10_1 + 1)) : Int).toNat)).bind fun t245 => (some ((Go.bits .or .u64 x5_1 (ji7)), t245, 0))) else (none)) else (none))) else (if 0 ≤ (wrap64 (x10_1 + 1)) then (if (wrap64 (x10_1 + 1)) ≤ (l0.length : Int) then ((slices_Clone_byte_byte.f (l0.drop ((wrap64 (x10_1 + 1)) : Int).toNat)).bind fun t249 => (some ((Go.bits .or .u64 x5_1 (ji7)), t249, 0))) else (none)) else (none))) = some (r1, r2, r3) := by rw [if_neg (show ¬ (false = true) by decide)] at H; exact H
            clear H
            have H := H1
            clear H1
            by_cases c14 : x10_1 = 9
            ·rw [if_pos c14] at H
             have c14b0 : (x10_1 == 9) = true := beq_iff_eq.mpr c14
             have c14b1 : (x10_1 != 9) = false := bne_eq_false_iff_eq.mpr c14
             clear c14
             by_cases c15 : (rd l0 x10_1) > 1
             ·rw [if_pos c15] at H
              have c15b0 : decide (1 < (rd l0 x10_1)) = true := decide_eq_true c15
              clear c15
              simp only [Option.some.injEq, Prod.mk.injEq] at H
              obtain ⟨rfl, rfl, rfl⟩ := H
              go_wp2
              try rw [Exit.noGoto_ret]
              go_ret3
              exact ⟨_, by first | rfl | (simp [errW_none, errW_some] <;> rfl) | (simp only [← hji5, ← hji7]; first | rfl | (simp [errW_none, errW_some] <;> rfl)) | (simp [*, errW_none, errW_some] <;> rfl), by first | exact Kd.R_nil _ _ _ _ _ | exact Kd.N_nil _ _ _ _ _ | exact Kd.V_nil _ _ _ _ _ | exact Kd.Q_nil _ _ _ _ _ | exact Kd.S_nil _ _ _ _ _, by repeat (first | (with_reducible first | exact HB.out | apply below_alloc | apply pw_below_drewN | apply below_drew1) | exact HB.out)⟩
             ·rw [if_neg c15] at H
              have c15b0 : decide (1 < (rd l0 x10_1)) = false := decide_eq_false c15
              clear c15
              obtain ⟨ji16, hji16⟩ : ∃ j_ : Int, (wrap64 (x10_1 + 1)) = j_ := ⟨_, rfl⟩
              replace H : (if 0 ≤ (ji16) then (if (ji16) ≤ (l0.length : Int) then ((slices_Clone_byte_byte.f (l0.drop ((ji16) : Int).toNat)).bind fun t245 => (some ((Go.bits .or .u64 x5_1 (ji7)), t245, 0))) else (none)) else (none)) = some (r1, r2, r3) := by first | (rw [hji16] at H; exact H) | (simp only [hji16] at H ⊢; exact H)
              have hji16w : (IntKind.i64.wrap (x10_1 + 1)) = ji16 := (i64_w _).trans hji16
              by_cases c17 : 0 ≤ (ji16)
              ·rw [if_pos c17] at H
               have c17b0 := eq_true c17
               have c17b1 : decide (0 ≤ (ji16)) = true := decide_eq_true c17
               clear c17
               by_cases c18 : (ji16) ≤ (l0.length : Int)
               ·rw [if_pos c18] at H
                have c18b0 := eq_true c18
                have c18b1 : decide ((ji16) ≤ (l0.length : Int)) = true := decide_eq_true c18
                clear c18
                replace H := Option.bind_eq_some_iff.mp H
                obtain ⟨t245, A190, H⟩ := H
                replace H : (some ((Go.bits .or .u64 x5_1 (ji7)), t245, 0)) = some (r1, r2, r3) := H
                have A19 := Aside0.mk A190
                clear A190
                simp only [Option.some.injEq, Prod.mk.injEq] at H
                obtain ⟨rfl, rfl, rfl⟩ := H
                obtain ⟨i020, hi020, _, hsz20, _⟩ := info_parts info5
                obtain ⟨A20, hcut20, hA20, hC20⟩ := print_drop_of (P := Try.prog) (Value.int .u8) 0 26 5 .i64 Try.underlying26 hi020 hsz20 (some ad243) c0 l0 (ji16) (of_decide_eq_true (by first | (with_reducible assumption) | assumption)) (of_decide_eq_true (by first | (with_reducible assumption) | assumption)) HC0.out
                have HR244 := Aside0.mk (Kd.C_of_reads (h1 := fun _ => rfl) (hA20 _ (Kd.reads_of_C HR0.out)))
                have HC244 := Aside0.mk hC20
                clear hA20 hC20 hi020 hsz20
                go_wp2_with (first | ((with_reducible refine gate_callee (f := 38) rfl ?_); refine goesL_ (some 28) rfl rfl Try.func38 (by kernel_rfl) rfl #[.slice A20 (l0.drop ((ji16) : Int).toNat).length (c0 - (ji16).toNat)] rfl (by (try simp only [List.map_toArray, List.map_cons, List.map_nil]); first | done | (rw [show (l0.drop ((ji16) : Int).toNat).length = (l0.length - (ji16).toNat) from List.length_drop] <;> rfl) | (simp only [hji16]; rfl) | rfl | (simp only [List.length_drop, List.length_take]; rfl)) ?_; (with_reducible refine (slices_Clone_byte_byte.calls _ _ (l0.drop ((ji16) : Int).toNat) t245 _ ?side1 ?side2 A19.out).mono ?_); (case side1 => repeat (first | exact (Kd.C_below HR244.out HB.out) | (with_reducible refine Kd.C_alloc ?_ _) | (with_reducible refine Kd.C_drewN ?_ _) | (with_reducible refine Kd.C_drew ?_))); (case side2 => exact HC244.out); rintro e w21 ⟨v246, rfl, ho0, hb⟩; refine ⟨_, rfl, ?_⟩; have n0_ := Aside0.mk (Kd.R_lower ho0 (below_size (by repeat (first | (with_reducible first | exact HB.out | apply below_alloc | apply pw_below_drewN | apply below_drew1) | exact HB.out)))); have n1_ := Aside0.mk (below_step (by repeat (first | (with_reducible first | exact HB.out | apply below_alloc | apply pw_below_drewN | apply below_drew1) | exact HB.out)) hb); clear HB; have HO247 := n0_; have HB := n1_; clear n0_ n1_; (try clear hb); (try clear hb2); (try clear hk); (try clear hi); (try clear ho0)))
                try rw [Exit.noGoto_ret]
                go_ret3
                exact ⟨_, by first | rfl | (simp [errW_none, errW_some] <;> rfl) | (simp only [← hji5, ← hji7, ← hji16]; first | rfl | (simp [errW_none, errW_some] <;> rfl)) | (simp [*, errW_none, errW_some] <;> rfl), by (with_reducible repeat (first | apply Kd.R_alloc | apply Kd.R_drewN | apply Kd.R_drew)); exact HO247.out, by repeat (first | (with_reducible first | exact HB.out | apply below_alloc | apply pw_below_drewN | apply below_drew1) | exact HB.out)⟩
               ·rw [if_neg c18] at H
                exact absurd H (by simp)
              ·rw [if_neg c17] at H
               exact absurd H (by simp)
            ·rw [if_neg c14] at H
             have c14b0 : (x10_1 == 9) = false := beq_eq_false_iff_ne.mpr c14
             have c14b1 : (x10_1 != 9) = true := bne_iff_ne.mpr c14
             obtain ⟨ji22, hji22⟩ : ∃ j_ : Int, (wrap64 (x10_1 + 1)) = j_ := ⟨_, rfl⟩
             replace H : (if 0 ≤ (ji22) then (if (ji22) ≤ (l0.length : Int) then ((slices_Clone_byte_byte.f (l0.drop ((ji22) : Int).toNat)).bind fun t249 => (some ((Go.bits .or .u64 x5_1 (ji7)), t249, 0))) else (none)) else (none)) = some (r1, r2, r3) := by first | (rw [hji22] at H; exact H) | (simp only [hji22] at H ⊢; exact H)
             have hji22w : (IntKind.i64.wrap (x10_1 + 1)) = ji22 := (i64_w _).trans hji22
             by_cases c23 : 0 ≤ (ji22)
             ·rw [if_pos c23] at H
              have c23b0 := eq_true c23
              have c23b1 : decide (0 ≤ (ji22)) = true := decide_eq_true c23
              clear c23
              by_cases c24 : (ji22) ≤ (l0.length : Int)
              ·rw [if_pos c24] at H
               have c24b0 := eq_true c24
               have c24b1 : decide ((ji22) ≤ (l0.length : Int)) = true := decide_eq_true c24
               clear c24
               replace H := Option.bind_eq_some_iff.mp H
               obtain ⟨t249, A250, H⟩ := H
               replace H : (some ((Go.bits .or .u64 x5_1 (ji7)), t249, 0)) = some (r1, r2, r3) := H
               have A25 := Aside0.mk A250
               clear A250
               simp only [Option.some.injEq, Prod.mk.injEq] at H
               obtain ⟨rfl, rfl, rfl⟩ := H
               obtain ⟨i026, hi026, _, hsz26, _⟩ := info_parts info5
               obtain ⟨A26, hcut26, hA26, hC26⟩ := print_drop_of (P := Try.prog) (Value.int .u8) 0 26 5 .i64 Try.underlying26 hi026 hsz26 (some ad243) c0 l0 (ji22) (of_decide_eq_true (by first | (with_reducible assumption) | assumption)) (of_decide_eq_true (by first | (with_reducible assumption) | assumption)) HC0.out
               have HR248 := Aside0.mk (Kd.C_of_reads (h1 := fun _ => rfl) (hA26 _ (Kd.reads_of_C HR0.out)))
               have HC248 := Aside0.mk hC26
               clear hA26 hC26 hi026 hsz26
               go_wp2_with (first | ((with_reducible refine gate_callee (f := 38) rfl ?_); refine goesL_ (some 28) rfl rfl Try.func38 (by kernel_rfl) rfl #[.slice A26 (l0.drop ((ji22) : Int).toNat).length (c0 - (ji22).toNat)] rfl (by (try simp only [List.map_toArray, List.map_cons, List.map_nil]); first | done | (rw [show (l0.drop ((ji22) : Int).toNat).length = (l0.length - (ji22).toNat) from List.length_drop] <;> rfl) | (simp only [hji22]; rfl) | rfl | (simp only [List.length_drop, List.length_take]; rfl)) ?_; (with_reducible refine (slices_Clone_byte_byte.calls _ _ (l0.drop ((ji22) : Int).toNat) t249 _ ?side1 ?side2 A25.out).mono ?_); (case side1 => repeat (first | exact (Kd.C_below HR248.out HB.out) | (with_reducible refine Kd.C_alloc ?_ _) | (with_reducible refine Kd.C_drewN ?_ _) | (with_reducible refine Kd.C_drew ?_))); (case side2 => exact HC248.out); rintro e w27 ⟨v250, rfl, ho0, hb⟩; refine ⟨_, rfl, ?_⟩; have n0_ := Aside0.mk (Kd.R_lower ho0 (below_size (by repeat (first | (with_reducible first | exact HB.out | apply below_alloc | apply pw_below_drewN | apply below_drew1) | exact HB.out)))); have n1_ := Aside0.mk (below_step (by repeat (first | (with_reducible first | exact HB.out | apply below_alloc | apply pw_below_drewN | apply below_drew1) | exact HB.out)) hb); clear HB; have HO251 := n0_; have HB := n1_; clear n0_ n1_; (try clear hb); (try clear hb2); (try clear hk); (try clear hi); (try clear ho0)))
               try rw [Exit.noGoto_ret]
               go_ret3
               exact ⟨_, by first | rfl | (simp [errW_none, errW_some] <;> rfl) | (simp only [← hji5, ← hji7, ← hji22]; first | rfl | (simp [errW_none, errW_some] <;> rfl)) | (simp [*, errW_none, errW_some] <;> rfl), by (with_reducible repeat (first | apply Kd.R_alloc | apply Kd.R_drewN | apply Kd.R_drew)); exact HO251.out, by repeat (first | (with_reducible first | exact HB.out | apply below_alloc | apply pw_below_drewN | apply below_drew1) | exact HB.out)⟩
              ·rw [if_neg c24] at H
               exact absurd H (by simp)
             ·rw [if_neg c23] at H
              exact absurd H (by simp)
      ·rw [if_neg c6] at H
       exact absurd H (by simp)
     ·rw [if_neg c4] at H
      exact absurd H (by simp)
    ·rw [if_neg c3] at H
     exact absurd H (by simp)
   ·rw [if_neg c2] at H
    have c2b0 : decide (x10_1 < (l0.length : Int)) = false := decide_eq_false c2
    clear c2
    by_cases c28 : (l0.length : Int) < 10
    ·rw [if_pos c28] at H
     have c28b0 : decide ((l0.length : Int) < 10) = true := decide_eq_true c28
     have c28b1 : decide (l0.length < 10) = true := decide_eq_true (by omega)
     clear c28
     simp only [Option.some.injEq, Prod.mk.injEq] at H
     obtain ⟨rfl, rfl, rfl⟩ := H
     go_wp2
     try rw [Exit.noGoto_ret]
     go_ret3
     exact ⟨_, by first | rfl | (simp [errW_none, errW_some] <;> rfl) | (simp [*, errW_none, errW_some] <;> rfl), by first | exact Kd.R_nil _ _ _ _ _ | exact Kd.N_nil _ _ _ _ _ | exact Kd.V_nil _ _ _ _ _ | exact Kd.Q_nil _ _ _ _ _ | exact Kd.S_nil _ _ _ _ _, by repeat (first | (with_reducible first | exact HB.out | apply below_alloc | apply pw_below_drewN | apply below_drew1) | exact HB.out)⟩
    ·rw [if_neg c28] at H
     have c28b0 : decide ((l0.length : Int) < 10) = false := decide_eq_false c28
     have c28b1 : decide (l0.length < 10) = false := decide_eq_false (by omega)
     clear c28
     simp only [Option.some.injEq, Prod.mk.injEq] at H
     obtain ⟨rfl, rfl, rfl⟩ := H
     go_wp2
     try rw [Exit.noGoto_ret]
     go_ret3
     exact ⟨_, by first | rfl | (simp [errW_none, errW_some] <;> rfl) | (simp [*, errW_none, errW_some] <;> rfl), by first | exact Kd.R_nil _ _ _ _ _ | exact Kd.N_nil _ _ _ _ _ | exact Kd.V_nil _ _ _ _ _ | exact Kd.Q_nil _ _ _ _ _ | exact Kd.S_nil _ _ _ _ _, by repeat (first | (with_reducible first | exact HB.out | apply below_alloc | apply pw_below_drewN | apply below_drew1) | exact HB.out)⟩

/-! ### vary_Zag: function 60 -/
def vary_Zag.f (a0 : Int) : Option (Int) := some (Go.bits .xor .i64 (wrap64 (a0 / 2)) (wrap64 (-(wrap64 (Go.bits .and .u64 a0 1)))))
set_option maxHeartbeats 8000000 in
set_option maxRecDepth 100000 in
theorem vary_Zag.calls (a0 : Int) (r : Int) (w : World) (h : vary_Zag.f a0 = some r) :
  Calls Try.prog 60 #[.int .u64 a0] w fun e w' => e = .returned (.int .i64 r) ∧ Drawn0 w w' := by
 have H : (some (Go.bits .xor .i64 (wrap64 (a0 / 2)) (wrap64 (-(wrap64 (Go.bits .and .u64 a0 1)))))) = some r := h
 clear h
 obtain rfl := Option.some.inj H
 go_enter Try.func60, Try.ntmps60
 go_wp2
 go_ret
 exact ⟨by first | rfl | (simp; done) | (simp [*]; done), by repeat (first | exact Drawn0.refl _ | apply Drawn0.step)⟩

/-! ### gaps_Take: function 47 -/
mutual
def gaps_Take.j0 : Nat → Int → List Int → Int → Bool → Option (List Int × Int)
 | 0, _, _, _, _ => none
 | k + 1, x0, x1, x6, x27 => if x27 = true then (some (([] : List Int), 6)) else (gaps_Take.l0 k x1 ([] : List Int) (wrap64 (x0)) x6 0)
def gaps_Take.l0 : Nat → List Int → List Int → Int → Int → Int → Option (List Int × Int)
 | 0, _, _, _, _, _ => none
 | k + 1, x1, x8, x9, x30, x31 => if x31 < x30 then ((vary_Take.f k x1).bind fun bt257 => (if bt257.2.2 = 0 then (gaps_Take.j2 k bt257.2.1 x8 x9 x31 bt257.1 x30 x31 (decide (bt257.1 ≥ 17179869184))) else (gaps_Take.j2 k bt257.2.1 x8 x9 x31 bt257.1 x30 x31 true))) else (if (x1.length : Int) > 0 then (some (([] : List Int), 6)) else (some (x8, 0)))
def gaps_Take.j2 : Nat → List Int → List Int → Int → Int → Int → Int → Int → Bool → Option (List Int × Int)
 | 0, _, _, _, _, _, _, _, _ => none
 | k + 1, x1, x8, x9, x10, x11, x30, x31, x45 => if x45 = true then (some (([] : List Int), 6)) else (if x10 = 0 then ((vary_Zag.f x11).bind fun t262 => (if (wrap64 (x9 + t262)) < 0 then (some (([] : List Int), 6)) else (if (wrap64 (x9 + t262)) > 4294967295 then (some (([] : List Int), 6)) else (if x8.length < 35184372088832 then (gaps_Take.l0 k x1 (x8 ++ [(wrap64 (x9 + t262)) % 4294967296]) (wrap64 (x9 + t262)) x30 (IntKind.u64.wrap (x31 + 1))) else (none))))) else (if (wrap64 (x9 + (wrap64 ((wrap64 (x11)) + 1)))) < 0 then (some (([] : List Int), 6)) else (if (wrap64 (x9 + (wrap64 ((wrap64 (x11)) + 1)))) > 4294967295 then (some (([] : List Int), 6)) else (if x8.length < 35184372088832 then (gaps_Take.l0 k x1 (x8 ++ [(wrap64 (x9 + (wrap64 ((wrap64 (x11)) + 1)))) % 4294967296]) (wrap64 (x9 + (wrap64 ((wrap64 (x11)) + 1)))) x30 (IntKind.u64.wrap (x31 + 1))) else (none)))))
end
def gaps_Take.f (k : Nat) (a0 : Int) (l1 : List Int) : Option (List Int × Int) := (vary_Take.f k l1).bind fun bt252 => (if bt252.2.2 = 0 then (gaps_Take.j0 k a0 bt252.2.1 bt252.1 (decide (bt252.1 > (IntKind.u64.wrap ((bt252.2.1.length : Int)))))) else (gaps_Take.j0 k a0 bt252.2.1 bt252.1 true))
theorem gaps_Take.mono_l : ∀ k, (∀ y0 y1 y2 y3, LeO (gaps_Take.j0 k y0 y1 y2 y3) (gaps_Take.j0 (k + 1) y0 y1 y2 y3)) ∧ (∀ y0 y1 y2 y3 y4, LeO (gaps_Take.l0 k y0 y1 y2 y3 y4) (gaps_Take.l0 (k + 1) y0 y1 y2 y3 y4)) ∧ (∀ y0 y1 y2 y3 y4 y5 y6 y7, LeO (gaps_Take.j2 k y0 y1 y2 y3 y4 y5 y6 y7) (gaps_Take.j2 (k + 1) y0 y1 y2 y3 y4 y5 y6 y7))
 | 0 => ⟨fun _ _ _ _ r h => by simp [gaps_Take.j0] at h, fun _ _ _ _ _ r h => by simp [gaps_Take.l0] at h, fun _ _ _ _ _ _ _ _ r h => by simp [gaps_Take.j2] at h⟩
 | k + 1 => by
  obtain ⟨ih0, ih1, ih2⟩ := gaps_Take.mono_l k
  refine ⟨?_, ?_, ?_⟩
  ·intro y0 y1 y2 y3
   unfold gaps_Take.j0
   repeat' first
   | (with_reducible exact ih0 _ _ _ _)
   | (with_reducible exact ih1 _ _ _ _ _)
   | (with_reducible exact ih2 _ _ _ _ _ _ _ _)
   | (with_reducible exact vary_Take.mono _ _)
   | (with_reducible exact LeO.refl _)
   | (with_reducible exact LeO.none _)
   | (with_reducible refine LeO.ite ?_ ?_)
   | (with_reducible refine LeO.bind ?_ (fun _ => ?_))
   | exact ih0 _ _ _ _
   | exact ih1 _ _ _ _ _
   | exact ih2 _ _ _ _ _ _ _ _
   | exact vary_Take.mono _ _
   | exact LeO.none _
   | refine LeO.ite ?_ ?_
   | refine LeO.bind ?_ (fun _ => ?_)
  ·intro y0 y1 y2 y3 y4
   unfold gaps_Take.l0
   repeat' first
   | (with_reducible exact ih0 _ _ _ _)
   | (with_reducible exact ih1 _ _ _ _ _)
   | (with_reducible exact ih2 _ _ _ _ _ _ _ _)
   | (with_reducible exact vary_Take.mono _ _)
   | (with_reducible exact LeO.refl _)
   | (with_reducible exact LeO.none _)
   | (with_reducible refine LeO.ite ?_ ?_)
   | (with_reducible refine LeO.bind ?_ (fun _ => ?_))
   | exact ih0 _ _ _ _
   | exact ih1 _ _ _ _ _
   | exact ih2 _ _ _ _ _ _ _ _
   | exact vary_Take.mono _ _
   | exact LeO.none _
   | refine LeO.ite ?_ ?_
   | refine LeO.bind ?_ (fun _ => ?_)
  ·intro y0 y1 y2 y3 y4 y5 y6 y7
   unfold gaps_Take.j2
   repeat' first
   | (with_reducible exact ih0 _ _ _ _)
   | (with_reducible exact ih1 _ _ _ _ _)
   | (with_reducible exact ih2 _ _ _ _ _ _ _ _)
   | (with_reducible exact vary_Take.mono _ _)
   | (with_reducible exact LeO.refl _)
   | (with_reducible exact LeO.none _)
   | (with_reducible refine LeO.ite ?_ ?_)
   | (with_reducible refine LeO.bind ?_ (fun _ => ?_))
   | exact ih0 _ _ _ _
   | exact ih1 _ _ _ _ _
   | exact ih2 _ _ _ _ _ _ _ _
   | exact vary_Take.mono _ _
   | exact LeO.none _
   | refine LeO.ite ?_ ?_
   | refine LeO.bind ?_ (fun _ => ?_)
theorem gaps_Take.mono : ∀ a0 a1 k, LeO (gaps_Take.f k a0 a1) (gaps_Take.f (k + 1) a0 a1) := by
 intro a0 a1 k
 obtain ⟨ih0, ih1, ih2⟩ := gaps_Take.mono_l k
 unfold gaps_Take.f
 repeat' first
   | (with_reducible exact ih0 _ _ _ _)
   | (with_reducible exact ih1 _ _ _ _ _)
   | (with_reducible exact ih2 _ _ _ _ _ _ _ _)
   | (with_reducible exact vary_Take.mono _ _)
   | (with_reducible exact LeO.refl _)
   | (with_reducible exact LeO.none _)
   | (with_reducible refine LeO.ite ?_ ?_)
   | (with_reducible refine LeO.bind ?_ (fun _ => ?_))
   | exact ih0 _ _ _ _
   | exact ih1 _ _ _ _ _
   | exact ih2 _ _ _ _ _ _ _ _
   | exact vary_Take.mono _ _
   | exact LeO.none _
   | refine LeO.ite ?_ ?_
   | refine LeO.bind ?_ (fun _ => ?_)
set_option maxHeartbeats 8000000 in
set_option maxRecDepth 100000 in
theorem gaps_Take.calls (k : Nat) (a0 : Int) (A1 : Option Addr) (c1 : Nat) (l1 : List Int) (r1 : List Int) (r2 : Int) (w : World) (hr1 : Kd.C (Kd.int .u8) w A1 l1.length l1) (hc1 : l1.length ≤ c1) (h : gaps_Take.f k a0 l1 = some (r1, r2)) :
  Calls Try.prog 47 #[.int .u32 a0, .slice A1 l1.length c1] w fun e w' => ∃ v0_ : Value, e = .returned (.tuple #[v0_, .int .i64 r2]) ∧ Kd.R (Kd.int .u32) 31 w' w.heap.size (fun _ => True) v0_ r1 ∧ Below w.heap.size w w' := by
 have HR1 := Aside0.mk hr1
 have HC1 := Aside0.mk hc1
 clear hr1 hc1
 have HB := Aside0.mk (Below.refl w.heap.size w)
 have H : ((vary_Take.f k l1).bind fun bt252 => (if bt252.2.2 = 0 then (gaps_Take.j0 k a0 bt252.2.1 bt252.1 (decide (bt252.1 > (IntKind.u64.wrap ((bt252.2.1.length : Int)))))) else (gaps_Take.j0 k a0 bt252.2.1 bt252.1 true))) = some (r1, r2) := h
 clear h
 replace H := Option.bind_eq_some_iff.mp H
 obtain ⟨⟨t252, t253, t254⟩, A30, H⟩ := H
 replace H : (if t254 = 0 then (gaps_Take.j0 k a0 t253 t252 (decide (t252 > (IntKind.u64.wrap ((t253.length : Int)))))) else (gaps_Take.j0 k a0 t253 t252 true)) = some (r1, r2) := H
 have A3 := Aside0.mk A30
 clear A30
 have HC4 := Aside0.mk H
 clear H
 go_enter Try.func47, Try.ntmps47
 go_upto_region 2 with (first | ((with_reducible refine gate_callee (f := 31) rfl ?_); refine goesL_ (some 15) rfl rfl Try.func31 (by kernel_rfl) rfl #[.slice A1 l1.length c1] rfl (by (try simp only [List.map_toArray, List.map_cons, List.map_nil]); first | done | rfl | (simp only [List.length_drop, List.length_take]; rfl)) ?_; (with_reducible refine (vary_Take.calls k _ _ l1 t252 t253 t254 _ ?side1 ?side2 A3.out).mono ?_); (case side1 => repeat (first | exact HR1.out | (with_reducible refine Kd.C_alloc ?_ _) | (with_reducible refine Kd.C_drewN ?_ _) | (with_reducible refine Kd.C_drew ?_))); (case side2 => exact HC1.out); rintro e w5 ⟨v255, rfl, ho0, hb⟩; refine ⟨_, rfl, ?_⟩; have n0_ := Aside0.mk (Kd.R_lower ho0 (below_size (by repeat (first | (with_reducible first | exact HB.out | apply below_alloc | apply pw_below_drewN | apply below_drew1) | exact HB.out)))); have n1_ := Aside0.mk (below_step (by repeat (first | (with_reducible first | exact HB.out | apply below_alloc | apply pw_below_drewN | apply below_drew1) | exact HB.out)) hb); clear HB; have HO256 := n0_; have HB := n1_; clear n0_ n1_; (try clear hb); (try clear hb2); (try clear hk); (try clear hi); (try clear ho0)))
 (try simp only [Act.put, List.setIfInBounds_toArray, List.set_cons_zero, List.set_cons_succ])
 go_cut [27] (fun v27 wc => ∃ (kq : Nat) (x27_3 : Bool), v27 = .bool x27_3 ∧ Aside0 (gaps_Take.j0 kq a0 t253 t252 x27_3 = some (r1, r2)) ∧ Aside0 (kq ≤ k) ∧ Aside0 (Kd.R (Kd.int .u8) 5 wc w.heap.size (fun _ => True) v255 t253) ∧ Aside0 (Below w.heap.size w wc))
 case first =>
  have H := HC4.out
  clear HC4
  by_cases c6 : t254 = 0
  ·rw [if_pos c6] at H
   have c6b0 : (t254 == 0) = true := beq_iff_eq.mpr c6
   have c6b1 : (t254 != 0) = false := bne_eq_false_iff_eq.mpr c6
   clear c6
   (first | rw [c6b0] | (simp only [i64_w, i32_w]; rw [c6b0]) | skip)
   have H' := Aside0.mk H
   clear H
   obtain ⟨Ao7, co7, eo7⟩ := Kd.R_slice HO256.out
   subst eo7
   go_wp2
   go_meet
   case rel => exact ⟨_, (decide (t252 > (IntKind.u64.wrap ((t253.length : Int))))), (by first | rfl | (simp; done) | (simp [*]; done)), H', ⟨by first | omega | exact Nat.le_refl _⟩, ⟨by (with_reducible repeat (first | apply Kd.R_alloc | apply Kd.R_drewN | apply Kd.R_drew)); exact HO256.out⟩, ⟨by repeat (first | (with_reducible first | exact HB.out | apply below_alloc | apply pw_below_drewN | apply below_drew1) | exact HB.out)⟩⟩
  ·rw [if_neg c6] at H
   have c6b0 : (t254 == 0) = false := beq_eq_false_iff_ne.mpr c6
   have c6b1 : (t254 != 0) = true := bne_iff_ne.mpr c6
   (first | rw [c6b0] | (simp only [i64_w, i32_w]; rw [c6b0]) | skip)
   have H' := Aside0.mk H
   clear H
   go_wp2
   go_meet
   case rel => exact ⟨_, (true), (by first | rfl | (simp; done) | (simp [*]; done)), H', ⟨by first | omega | exact Nat.le_refl _⟩, ⟨by (with_reducible repeat (first | apply Kd.R_alloc | apply Kd.R_drewN | apply Kd.R_drew)); exact HO256.out⟩, ⟨by repeat (first | (with_reducible first | exact HB.out | apply below_alloc | apply pw_below_drewN | apply below_drew1) | exact HB.out)⟩⟩
 case rest =>
  clear HC4
  try clear c1
  try clear p2
  try clear c3
  try clear c4
  try clear c6
  try clear c6b0
  try clear c6b1
  obtain ⟨kq, x27_3, rfl, HA, HJ3, HO_1, HB⟩ := hcut
  cases kq with
  | zero => exact absurd HA.out (by simp [gaps_Take.j0])
  | succ kj3 =>
   have H := HA.out
   clear HA
   simp only [gaps_Take.j0] at H
   by_cases c8 : x27_3 = true
   ·subst c8
    have H1 : (some (([] : List Int), 6)) = some (r1, r2) := by rw [if_pos rfl] at H; exact H
    clear H
    have H := H1
    clear H1
    simp only [Option.some.injEq, Prod.mk.injEq] at H
    obtain ⟨rfl, rfl⟩ := H
    go_wp2
    go_ret2
    exact ⟨_, by first | rfl | (simp [errW_none, errW_some] <;> rfl) | (simp [*, errW_none, errW_some] <;> rfl), by first | exact Kd.R_nil _ _ _ _ _ | exact Kd.N_nil _ _ _ _ _ | exact Kd.V_nil _ _ _ _ _ | exact Kd.Q_nil _ _ _ _ _ | exact Kd.S_nil _ _ _ _ _, by repeat (first | (with_reducible first | exact HB.out | apply below_alloc | apply pw_below_drewN | apply below_drew1) | exact HB.out)⟩
   ·replace c8 := Bool.eq_false_iff.mpr c8
    subst c8
    have H1 : (gaps_Take.l0 kj3 t253 ([] : List Int) (wrap64 (a0)) t252 0) = some (r1, r2) := by rw [if_neg (show ¬ (false = true) by decide)] at H; exact H
    clear H
    have H := H1
    clear H1
    have H' := Aside0.mk H
    clear H
    go_wp2
    go_loopg [1, 8, 9, 31] kj3 (fun kq v1 v8 v9 v31 w' => ∃ (x1_2 : List Int) (x8_2 : List Int) (x9_2 : Int) (x31_2 : Int), v9 = .int .i64 x9_2 ∧ v31 = .int .u64 x31_2 ∧ Aside0 (gaps_Take.l0 kq x1_2 x8_2 x9_2 t252 x31_2 = some (r1, r2)) ∧ Aside0 (kq ≤ kj3) ∧ Aside0 (Kd.R (Kd.int .u8) 5 w' w.heap.size (fun _ => True) v1 x1_2) ∧ Aside0 (Kd.R (Kd.int .u32) 31 w' w.heap.size (fun _ => True) v8 x8_2) ∧ Aside0 (Below w.heap.size w w'))
    case atStart => exact ⟨(t253), (([] : List Int)), (wrap64 (a0)), (0), (by first | rfl | (simp; done) | (simp [*]; done)), (by first | rfl | (simp; done) | (simp [*]; done)), H', ⟨Nat.le_refl _⟩, ⟨by (with_reducible repeat (first | apply Kd.R_alloc | apply Kd.R_drewN | apply Kd.R_drew)); exact HO_1.out⟩, ⟨by first | exact Kd.R_nil _ _ _ _ _ | exact Kd.N_nil _ _ _ _ _ | exact Kd.V_nil _ _ _ _ _ | exact Kd.Q_nil _ _ _ _ _ | exact Kd.S_nil _ _ _ _ _⟩, ⟨by repeat (first | (with_reducible first | exact HB.out | apply below_alloc | apply pw_below_drewN | apply below_drew1) | exact HB.out)⟩⟩
    case round =>
     clear H'
     try clear c1
     try clear p2
     try clear c3
     try clear c4
     try clear c6
     try clear c6b0
     try clear c6b1
     try clear p6
     try clear c8
     try clear p2
     obtain ⟨x1_2, x8_2, x9_2, x31_2, rfl, rfl, HA, HK2, HO_1, HO_8, HB⟩ := hrel
     cases gk with
     | zero => exact absurd HA.out (by simp [gaps_Take.l0])
     | succ k2 =>
      have H := HA.out
      clear HA
      simp only [gaps_Take.l0] at H
      by_cases c9 : x31_2 < t252
      ·rw [if_pos c9] at H
       have c9b0 : decide (x31_2 < t252) = true := decide_eq_true c9
       clear c9
       replace H := Option.bind_eq_some_iff.mp H
       obtain ⟨⟨t257, t258, t259⟩, A100, H⟩ := H
       replace H : (if t259 = 0 then (gaps_Take.j2 k2 t258 x8_2 x9_2 x31_2 t257 t252 x31_2 (decide (t257 ≥ 17179869184))) else (gaps_Take.j2 k2 t258 x8_2 x9_2 x31_2 t257 t252 x31_2 true)) = some (r1, r2) := H
       have A10 := Aside0.mk A100
       clear A100
       have HC11 := Aside0.mk H
       clear H
       obtain ⟨Ao12, co12, eo12⟩ := Kd.R_slice HO_1.out
       subst eo12
       go_upto_region 11 with (first | ((with_reducible refine gate_callee (f := 31) rfl ?_); refine goesL_ (some 36) rfl rfl Try.func31 (by kernel_rfl) rfl #[.slice Ao12 x1_2.length co12] rfl (by (try simp only [List.map_toArray, List.map_cons, List.map_nil]); first | done | rfl | (simp only [List.length_drop, List.length_take]; rfl)) ?_; (with_reducible refine (vary_Take.calls k2 _ _ x1_2 t257 t258 t259 _ ?side1 ?side2 A10.out).mono ?_); (case side1 => repeat (first | exact (Kd.R_reads' HO_1.out).2.2 | (with_reducible refine Kd.C_alloc ?_ _) | (with_reducible refine Kd.C_drewN ?_ _) | (with_reducible refine Kd.C_drew ?_))); (case side2 => exact (Kd.R_reads' HO_1.out).2.1); rintro e w13 ⟨v260, rfl, ho0, hb⟩; refine ⟨_, rfl, ?_⟩; have n0_ := Aside0.mk (Kd.R_elder' (by (with_reducible repeat (first | apply Kd.R_alloc | apply Kd.R_drewN | apply Kd.R_drew)); exact HO_1.out) (Kd.R_base ho0) hb); have n1_ := Aside0.mk (Kd.R_below (by (with_reducible repeat (first | apply Kd.R_alloc | apply Kd.R_drewN | apply Kd.R_drew)); exact HO_8.out) hb); have n2_ := Aside0.mk (Kd.R_lower (Kd.R_new' ho0 (Kd.R_lt (by (with_reducible repeat (first | apply Kd.R_alloc | apply Kd.R_drewN | apply Kd.R_drew)); exact HO_1.out))) (below_size (by repeat (first | (with_reducible first | exact HB.out | apply below_alloc | apply pw_below_drewN | apply below_drew1) | exact HB.out)))); have n3_ := Aside0.mk (below_step (by repeat (first | (with_reducible first | exact HB.out | apply below_alloc | apply pw_below_drewN | apply below_drew1) | exact HB.out)) hb); clear HO_1; clear HO_8; clear HB; have HO_1 := n0_; have HO_8 := n1_; have HO261 := n2_; have HB := n3_; clear n0_ n1_ n2_ n3_; (try clear hb); (try clear hb2); (try clear hk); (try clear hi); (try clear ho0)))
       (try simp only [Act.put, List.setIfInBounds_toArray, List.set_cons_zero, List.set_cons_succ])
       go_cut [45] (fun v45 wc => ∃ (kq : Nat) (x45_10 : Bool), v45 = .bool x45_10 ∧ Aside0 (gaps_Take.j2 kq t258 x8_2 x9_2 x31_2 t257 t252 x31_2 x45_10 = some (r1, r2)) ∧ Aside0 (kq ≤ k2) ∧ Aside0 (Kd.R (Kd.int .u8) 5 wc w.heap.size (fun _ => True) v260 t258) ∧ Aside0 (Kd.R (Kd.int .u32) 31 wc w.heap.size (fun _ => True) u8 x8_2) ∧ Aside0 (Below w.heap.size w wc))
       case first =>
        have H := HC11.out
        clear HC11
        by_cases c14 : t259 = 0
        ·rw [if_pos c14] at H
         have c14b0 : (t259 == 0) = true := beq_iff_eq.mpr c14
         have c14b1 : (t259 != 0) = false := bne_eq_false_iff_eq.mpr c14
         clear c14
         (first | rw [c14b0] | (simp only [i64_w, i32_w]; rw [c14b0]) | skip)
         have H' := Aside0.mk H
         clear H
         go_wp2
         go_meet
         case rel => exact ⟨_, (decide (t257 ≥ 17179869184)), (by first | rfl | (simp; done) | (simp [*]; done)), H', ⟨by have := HJ3.out; have := HK2.out; first | omega | exact Nat.le_refl _⟩, ⟨by (with_reducible repeat (first | apply Kd.R_alloc | apply Kd.R_drewN | apply Kd.R_drew)); exact Kd.R_mono HO261.out (fun _ hk => trivial)⟩, ⟨by (with_reducible repeat (first | apply Kd.R_alloc | apply Kd.R_drewN | apply Kd.R_drew)); exact HO_8.out⟩, ⟨by repeat (first | (with_reducible first | exact HB.out | apply below_alloc | apply pw_below_drewN | apply below_drew1) | exact HB.out)⟩⟩
        ·rw [if_neg c14] at H
         have c14b0 : (t259 == 0) = false := beq_eq_false_iff_ne.mpr c14
         have c14b1 : (t259 != 0) = true := bne_iff_ne.mpr c14
         (first | rw [c14b0] | (simp only [i64_w, i32_w]; rw [c14b0]) | skip)
         have H' := Aside0.mk H
         clear H
         go_wp2
         go_meet
         case rel => exact ⟨_, (true), (by first | rfl | (simp; done) | (simp [*]; done)), H', ⟨by have := HJ3.out; have := HK2.out; first | omega | exact Nat.le_refl _⟩, ⟨by (with_reducible repeat (first | apply Kd.R_alloc | apply Kd.R_drewN | apply Kd.R_drew)); exact Kd.R_mono HO261.out (fun _ hk => trivial)⟩, ⟨by (with_reducible repeat (first | apply Kd.R_alloc | apply Kd.R_drewN | apply Kd.R_drew)); exact HO_8.out⟩, ⟨by repeat (first | (with_reducible first | exact HB.out | apply below_alloc | apply pw_below_drewN | apply below_drew1) | exact HB.out)⟩⟩
       case rest =>
        clear HC11
        try clear c1
        try clear p2
        try clear c3
        try clear c4
        try clear c6
        try clear c6b0
        try clear c6b1
        try clear p6
        try clear c8
        try clear c9
        try clear c9b0
        try clear c14
        try clear c14b0
        try clear c14b1
        try clear p2
        try clear p6
        obtain ⟨kq, x45_10, rfl, HA, HJ10, HO_1, HO_8, HB⟩ := hcut
        cases kq with
        | zero => exact absurd HA.out (by simp [gaps_Take.j2])
        | succ kj10 =>
         have H := HA.out
         clear HA
         simp only [gaps_Take.j2] at H
         by_cases c15 : x45_10 = true
         ·subst c15
          have H1 : (some (([] : List Int), 6)) = some (r1, r2) := by rw [if_pos rfl] at H; exact H
          clear H
          have H := H1
          clear H1
          simp only [Option.some.injEq, Prod.mk.injEq] at H
          obtain ⟨rfl, rfl⟩ := H
          go_wp2
          go_ret2
          exact ⟨_, by first | rfl | (simp [errW_none, errW_some] <;> rfl) | (simp [*, errW_none, errW_some] <;> rfl), by first | exact Kd.R_nil _ _ _ _ _ | exact Kd.N_nil _ _ _ _ _ | exact Kd.V_nil _ _ _ _ _ | exact Kd.Q_nil _ _ _ _ _ | exact Kd.S_nil _ _ _ _ _, by repeat (first | (with_reducible first | exact HB.out | apply below_alloc | apply pw_below_drewN | apply below_drew1) | exact HB.out)⟩
         ·replace c15 := Bool.eq_false_iff.mpr c15
          subst c15
          have H1 : (if x31_2 = 0 then ((vary_Zag.f t257).bind fun t262 => (if (wrap64 (x9_2 + t262)) < 0 then (some (([] : List Int), 6)) else (if (wrap64 (x9_2 + t262)) > 4294967295 then (some (([] : List Int), 6)) else (if x8_2.length < 35184372088832 then (gaps_Take.l0 kj10 t258 (x8_2 ++ [(wrap64 (x9_2 + t262)) % 4294967296]) (wrap64 (x9_2 + t262)) t252 (IntKind.u64.wrap (x31_2 + 1))) else (none))))) else (if (wrap64 (x9_2 + (wrap64 ((wrap64 (t257)) + 1)))) < 0 then (some (([] : List Int), 6)) else (if (wrap64 (x9_2 + (wrap64 ((wrap64 (t257)) + 1)))) > 4294967295 then (some (([] : List Int), 6)) else (if x8_2.length < 35184372088832 then (gaps_Take.l0 kj10 t258 (x8_2 ++ [(wrap64 (x9_2 + (wrap64 ((wrap64 (t257)) + 1)))) % 4294967296]) (wrap64 (x9_2 + (wrap64 ((wrap64 (t257)) + 1)))) t252 (IntKind.u64.wrap (x31_2 + 1))) else (none))))) = some (r1, r2) := by rw [if_neg (show ¬ (false = true) by decide)] at H; exact H
          clear H
          have H := H1
          clear H1
          by_cases c16 : x31_2 = 0
          ·rw [if_pos c16] at H
           have c16b0 : (x31_2 == 0) = true := beq_iff_eq.mpr c16
           have c16b1 : (x31_2 != 0) = false := bne_eq_false_iff_eq.mpr c16
           clear c16
           replace H := Option.bind_eq_some_iff.mp H
           obtain ⟨t262, A170, H⟩ := H
           replace H : (if (wrap64 (x9_2 + t262)) < 0 then (some (([] : List Int), 6)) else (if (wrap64 (x9_2 + t262)) > 4294967295 then (some (([] : List Int), 6)) else (if x8_2.length < 35184372088832 then (gaps_Take.l0 kj10 t258 (x8_2 ++ [(wrap64 (x9_2 + t262)) % 4294967296]) (wrap64 (x9_2 + t262)) t252 (IntKind.u64.wrap (x31_2 + 1))) else (none)))) = some (r1, r2) := H
           have A17 := Aside0.mk A170
           clear A170
           by_cases c18 : (wrap64 (x9_2 + t262)) < 0
           ·rw [if_pos c18] at H
            have c18b0 : decide ((wrap64 (x9_2 + t262)) < 0) = true := decide_eq_true c18
            clear c18
            simp only [Option.some.injEq, Prod.mk.injEq] at H
            obtain ⟨rfl, rfl⟩ := H
            go_wp2_with (first | ((with_reducible refine gate_callee (f := 60) rfl ?_); refine goesL_ (some 52) rfl rfl Try.func60 (by kernel_rfl) rfl #[.int .u64 t257] rfl (by (try simp only [List.map_toArray, List.map_cons, List.map_nil]); first | done | rfl | (simp only [List.length_drop, List.length_take]; rfl)) ?_; (with_reducible refine (vary_Zag.calls t257 t262 _ A17.out).mono ?_); rintro e w' ⟨rfl, ⟨nd, rfl⟩⟩; refine ⟨_, rfl, ?_⟩))
            go_ret2
            exact ⟨_, by first | rfl | (simp [errW_none, errW_some] <;> rfl) | (simp [*, errW_none, errW_some] <;> rfl), by first | exact Kd.R_nil _ _ _ _ _ | exact Kd.N_nil _ _ _ _ _ | exact Kd.V_nil _ _ _ _ _ | exact Kd.Q_nil _ _ _ _ _ | exact Kd.S_nil _ _ _ _ _, by repeat (first | (with_reducible first | exact HB.out | apply below_alloc | apply pw_below_drewN | apply below_drew1) | exact HB.out)⟩
           ·rw [if_neg c18] at H
            have c18b0 : decide ((wrap64 (x9_2 + t262)) < 0) = false := decide_eq_false c18
            clear c18
            by_cases c19 : (wrap64 (x9_2 + t262)) > 4294967295
            ·rw [if_pos c19] at H
             have c19b0 : decide (4294967295 < (wrap64 (x9_2 + t262))) = true := decide_eq_true c19
             clear c19
             simp only [Option.some.injEq, Prod.mk.injEq] at H
             obtain ⟨rfl, rfl⟩ := H
             go_wp2_with (first | ((with_reducible refine gate_callee (f := 60) rfl ?_); refine goesL_ (some 52) rfl rfl Try.func60 (by kernel_rfl) rfl #[.int .u64 t257] rfl (by (try simp only [List.map_toArray, List.map_cons, List.map_nil]); first | done | rfl | (simp only [List.length_drop, List.length_take]; rfl)) ?_; (with_reducible refine (vary_Zag.calls t257 t262 _ A17.out).mono ?_); rintro e w' ⟨rfl, ⟨nd, rfl⟩⟩; refine ⟨_, rfl, ?_⟩))
             go_ret2
             exact ⟨_, by first | rfl | (simp [errW_none, errW_some] <;> rfl) | (simp [*, errW_none, errW_some] <;> rfl), by first | exact Kd.R_nil _ _ _ _ _ | exact Kd.N_nil _ _ _ _ _ | exact Kd.V_nil _ _ _ _ _ | exact Kd.Q_nil _ _ _ _ _ | exact Kd.S_nil _ _ _ _ _, by repeat (first | (with_reducible first | exact HB.out | apply below_alloc | apply pw_below_drewN | apply below_drew1) | exact HB.out)⟩
            ·rw [if_neg c19] at H
             have c19b0 : decide (4294967295 < (wrap64 (x9_2 + t262))) = false := decide_eq_false c19
             clear c19
             by_cases c20 : x8_2.length < 35184372088832
             ·rw [if_pos c20] at H
              have LMc20 := Aside0.mk c20
              clear c20
              obtain ⟨y263, hy263⟩ : ∃ y_ : List Int, y_ = (x8_2 ++ [(wrap64 (x9_2 + t262)) % 4294967296]) := ⟨_, rfl⟩
              replace H : (gaps_Take.l0 kj10 t258 y263 (wrap64 (x9_2 + t262)) t252 (IntKind.u64.wrap (x31_2 + 1))) = some (r1, r2) := by first | (rw [hy263]; with_reducible exact H) | (have H2_ := (Option.bind_some _ _).symm.trans H; rw [hy263]; with_reducible exact H2_) | (have H2_ := (Option.bind_some _ _).symm.trans H; with_reducible exact H2_) | with_reducible exact H | (rw [hy263]; exact H) | exact H
              have Ny263 := Aside0.mk hy263
              clear hy263
              have H' := Aside0.mk H
              clear H
              go_wp2_with (first | ((with_reducible refine gate_callee (f := 60) rfl ?_); refine goesL_ (some 52) rfl rfl Try.func60 (by kernel_rfl) rfl #[.int .u64 t257] rfl (by (try simp only [List.map_toArray, List.map_cons, List.map_nil]); first | done | rfl | (simp only [List.length_drop, List.length_take]; rfl)) ?_; (with_reducible refine (vary_Zag.calls t257 t262 _ A17.out).mono ?_); rintro e w' ⟨rfl, ⟨nd, rfl⟩⟩; refine ⟨_, rfl, ?_⟩) | ((with_reducible refine gate_builtin (b := .append) (xs := #[.tmp 62, .tmp 65]) rfl ?_); (try (refine gate_guard (by rfl) ?_; dsimp only)); at_builtin; refine Kd.R_append (Kd.int .u32) (w0 := w) w.heap.size rfl (.tmp 62) (.tmp 65) 36 31 (.int .u32 0) 4 rfl Try.underlying36 info31 rfl (by decide) (by omega) u8 x8_2 ((wrap64 (x9_2 + t262)) % 4294967296) [.int .u32 ((wrap64 (x9_2 + t262)) % 4294967296)] (fun _ => True) (fun _ => False) rfl rfl ?aP (fun _ hk => hk.elim) ?aF ?aO ?aB ?aS ?aL ?_; (case aP => exact rfl); (case aB => exact (by repeat (first | (with_reducible first | exact HB.out | apply below_alloc | apply pw_below_drewN | apply below_drew1) | exact HB.out))); (case aF => exact (fun _ _ => trivial)); (case aO => exact (by (with_reducible repeat (first | apply Kd.R_alloc | apply Kd.R_drewN | apply Kd.R_drew)); exact HO_8.out)); (case aS => exact (below_size (by repeat (first | (with_reducible first | exact HB.out | apply below_alloc | apply pw_below_drewN | apply below_drew1) | exact HB.out)))); (case aL => have := LMc20.out; omega); intro v264 w21 ho hb hg hat; rw [← Ny263.out] at ho; have n0_ := Aside0.mk (Kd.R_over' (by (with_reducible repeat (first | apply Kd.R_alloc | apply Kd.R_drewN | apply Kd.R_drew)); exact HO_1.out) (Kd.R_typed (by (with_reducible repeat (first | apply Kd.R_alloc | apply Kd.R_drewN | apply Kd.R_drew)); exact HO_8.out)) (by decide) hg); have n1_ := Aside0.mk (hb); have n2_ := Aside0.mk (ho); clear HO_1; clear HB; clear HO_8; have HO_1 := n0_; have HB := n1_; have HO265 := n2_; clear n0_ n1_ n2_; clear ho hb hg hat))
              go_roundg kj10
              case measure => have := HJ3.out; have := HK2.out; have := HJ10.out; omega
              case rel => exact ⟨(t258), (y263), (wrap64 (x9_2 + t262)), (IntKind.u64.wrap (x31_2 + 1)), (by first | rfl | (simp; done) | (simp [*]; done)), (by first | rfl | (simp; done) | (simp [*]; done)), H', ⟨by have := HJ3.out; have := HK2.out; have := HJ10.out; omega⟩, ⟨by (with_reducible repeat (first | apply Kd.R_alloc | apply Kd.R_drewN | apply Kd.R_drew)); exact HO_1.out⟩, ⟨by (with_reducible repeat (first | apply Kd.R_alloc | apply Kd.R_drewN | apply Kd.R_drew)); exact HO265.out⟩, ⟨by repeat (first | (with_reducible first | exact HB.out | apply below_alloc | apply pw_below_drewN | apply below_drew1) | exact HB.out)⟩⟩
             ·rw [if_neg c20] at H
              exact absurd H (by simp)
          ·rw [if_neg c16] at H
           have c16b0 : (x31_2 == 0) = false := beq_eq_false_iff_ne.mpr c16
           have c16b1 : (x31_2 != 0) = true := bne_iff_ne.mpr c16
           by_cases c22 : (wrap64 (x9_2 + (wrap64 ((wrap64 (t257)) + 1)))) < 0
           ·rw [if_pos c22] at H
            have c22b0 : decide ((wrap64 (x9_2 + (wrap64 ((wrap64 (t257)) + 1)))) < 0) = true := decide_eq_true c22
            clear c22
            simp only [Option.some.injEq, Prod.mk.injEq] at H
            obtain ⟨rfl, rfl⟩ := H
            go_wp2
            go_ret2
            exact ⟨_, by first | rfl | (simp [errW_none, errW_some] <;> rfl) | (simp [*, errW_none, errW_some] <;> rfl), by first | exact Kd.R_nil _ _ _ _ _ | exact Kd.N_nil _ _ _ _ _ | exact Kd.V_nil _ _ _ _ _ | exact Kd.Q_nil _ _ _ _ _ | exact Kd.S_nil _ _ _ _ _, by repeat (first | (with_reducible first | exact HB.out | apply below_alloc | apply pw_below_drewN | apply below_drew1) | exact HB.out)⟩
           ·rw [if_neg c22] at H
            have c22b0 : decide ((wrap64 (x9_2 + (wrap64 ((wrap64 (t257)) + 1)))) < 0) = false := decide_eq_false c22
            clear c22
            by_cases c23 : (wrap64 (x9_2 + (wrap64 ((wrap64 (t257)) + 1)))) > 4294967295
            ·rw [if_pos c23] at H
             have c23b0 : decide (4294967295 < (wrap64 (x9_2 + (wrap64 ((wrap64 (t257)) + 1))))) = true := decide_eq_true c23
             clear c23
             simp only [Option.some.injEq, Prod.mk.injEq] at H
             obtain ⟨rfl, rfl⟩ := H
             go_wp2
             go_ret2
             exact ⟨_, by first | rfl | (simp [errW_none, errW_some] <;> rfl) | (simp [*, errW_none, errW_some] <;> rfl), by first | exact Kd.R_nil _ _ _ _ _ | exact Kd.N_nil _ _ _ _ _ | exact Kd.V_nil _ _ _ _ _ | exact Kd.Q_nil _ _ _ _ _ | exact Kd.S_nil _ _ _ _ _, by repeat (first | (with_reducible first | exact HB.out | apply below_alloc | apply pw_below_drewN | apply below_drew1) | exact HB.out)⟩
            ·rw [if_neg c23] at H
             have c23b0 : decide (4294967295 < (wrap64 (x9_2 + (wrap64 ((wrap64 (t257)) + 1))))) = false := decide_eq_false c23
             clear c23
             by_cases c24 : x8_2.length < 35184372088832
             ·rw [if_pos c24] at H
              have LMc24 := Aside0.mk c24
              clear c24
              obtain ⟨y266, hy266⟩ : ∃ y_ : List Int, y_ = (x8_2 ++ [(wrap64 (x9_2 + (wrap64 ((wrap64 (t257)) + 1)))) % 4294967296]) := ⟨_, rfl⟩
              replace H : (gaps_Take.l0 kj10 t258 y266 (wrap64 (x9_2 + (wrap64 ((wrap64 (t257)) + 1)))) t252 (IntKind.u64.wrap (x31_2 + 1))) = some (r1, r2) := by first | (rw [hy266]; with_reducible exact H) | (have H2_ := (Option.bind_some _ _).symm.trans H; rw [hy266]; with_reducible exact H2_) | (have H2_ := (Option.bind_some _ _).symm.trans H; with_reducible exact H2_) | with_reducible exact H | (rw [hy266]; exact H) | exact H
              have Ny266 := Aside0.mk hy266
              clear hy266
              have H' := Aside0.mk H
              clear H
              go_wp2_with (first | ((with_reducible refine gate_builtin (b := .append) (xs := #[.tmp 62, .tmp 65]) rfl ?_); (try (refine gate_guard (by rfl) ?_; dsimp only)); at_builtin; refine Kd.R_append (Kd.int .u32) (w0 := w) w.heap.size rfl (.tmp 62) (.tmp 65) 36 31 (.int .u32 0) 4 rfl Try.underlying36 info31 rfl (by decide) (by omega) u8 x8_2 ((wrap64 (x9_2 + (wrap64 ((wrap64 (t257)) + 1)))) % 4294967296) [.int .u32 ((wrap64 (x9_2 + (wrap64 ((wrap64 (t257)) + 1)))) % 4294967296)] (fun _ => True) (fun _ => False) rfl rfl ?aP (fun _ hk => hk.elim) ?aF ?aO ?aB ?aS ?aL ?_; (case aP => exact rfl); (case aB => exact (by repeat (first | (with_reducible first | exact HB.out | apply below_alloc | apply pw_below_drewN | apply below_drew1) | exact HB.out))); (case aF => exact (fun _ _ => trivial)); (case aO => exact (by (with_reducible repeat (first | apply Kd.R_alloc | apply Kd.R_drewN | apply Kd.R_drew)); exact HO_8.out)); (case aS => exact (below_size (by repeat (first | (with_reducible first | exact HB.out | apply below_alloc | apply pw_below_drewN | apply below_drew1) | exact HB.out)))); (case aL => have := LMc24.out; omega); intro v267 w25 ho hb hg hat; rw [← Ny266.out] at ho; have n0_ := Aside0.mk (Kd.R_over' (by (with_reducible repeat (first | apply Kd.R_alloc | apply Kd.R_drewN | apply Kd.R_drew)); exact HO_1.out) (Kd.R_typed (by (with_reducible repeat (first | apply Kd.R_alloc | apply Kd.R_drewN | apply Kd.R_drew)); exact HO_8.out)) (by decide) hg); have n1_ := Aside0.mk (hb); have n2_ := Aside0.mk (ho); clear HO_1; clear HB; clear HO_8; have HO_1 := n0_; have HB := n1_; have HO268 := n2_; clear n0_ n1_ n2_; clear ho hb hg hat))
              go_roundg kj10
              case measure => have := HJ3.out; have := HK2.out; have := HJ10.out; omega
              case rel => exact ⟨(t258), (y266), (wrap64 (x9_2 + (wrap64 ((wrap64 (t257)) + 1)))), (IntKind.u64.wrap (x31_2 + 1)), (by first | rfl | (simp; done) | (simp [*]; done)), (by first | rfl | (simp; done) | (simp [*]; done)), H', ⟨by have := HJ3.out; have := HK2.out; have := HJ10.out; omega⟩, ⟨by (with_reducible repeat (first | apply Kd.R_alloc | apply Kd.R_drewN | apply Kd.R_drew)); exact HO_1.out⟩, ⟨by (with_reducible repeat (first | apply Kd.R_alloc | apply Kd.R_drewN | apply Kd.R_drew)); exact HO268.out⟩, ⟨by repeat (first | (with_reducible first | exact HB.out | apply below_alloc | apply pw_below_drewN | apply below_drew1) | exact HB.out)⟩⟩
             ·rw [if_neg c24] at H
              exact absurd H (by simp)
      ·rw [if_neg c9] at H
       have c9b0 : decide (x31_2 < t252) = false := decide_eq_false c9
       clear c9
       by_cases c26 : (x1_2.length : Int) > 0
       ·rw [if_pos c26] at H
        have c26b0 : decide (0 < (x1_2.length : Int)) = true := decide_eq_true c26
        have c26b1 : decide (0 < x1_2.length) = true := decide_eq_true (by omega)
        clear c26
        simp only [Option.some.injEq, Prod.mk.injEq] at H
        obtain ⟨rfl, rfl⟩ := H
        obtain ⟨Ao27, co27, eo27⟩ := Kd.R_slice HO_1.out
        subst eo27
        go_wp2
        go_ret2
        exact ⟨_, by first | rfl | (simp [errW_none, errW_some] <;> rfl) | (simp [*, errW_none, errW_some] <;> rfl), by first | exact Kd.R_nil _ _ _ _ _ | exact Kd.N_nil _ _ _ _ _ | exact Kd.V_nil _ _ _ _ _ | exact Kd.Q_nil _ _ _ _ _ | exact Kd.S_nil _ _ _ _ _, by repeat (first | (with_reducible first | exact HB.out | apply below_alloc | apply pw_below_drewN | apply below_drew1) | exact HB.out)⟩
       ·rw [if_neg c26] at H
        have c26b0 : decide (0 < (x1_2.length : Int)) = false := decide_eq_false c26
        have c26b1 : decide (0 < x1_2.length) = false := decide_eq_false (by omega)
        clear c26
        simp only [Option.some.injEq, Prod.mk.injEq] at H
        obtain ⟨rfl, rfl⟩ := H
        obtain ⟨Ao28, co28, eo28⟩ := Kd.R_slice HO_1.out
        subst eo28
        go_wp2
        go_ret2
        exact ⟨_, by first | rfl | (simp [errW_none, errW_some] <;> rfl) | (simp [*, errW_none, errW_some] <;> rfl), by (with_reducible repeat (first | apply Kd.R_alloc | apply Kd.R_drewN | apply Kd.R_drew)); exact HO_8.out, by repeat (first | (with_reducible first | exact HB.out | apply below_alloc | apply pw_below_drewN | apply below_drew1) | exact HB.out)⟩

/-! ### shard_Shard_vertex: function 32 -/
/-- What a vertex's bytes tell: its neighbours, the bytes behind them; false: they are none. -/
def shard_Shard_vertex.f (k : Nat) (from_ : Int) (n : Nat) (b : List Int) : Option (List Int × List Int × Bool) := (vary_Take.f k b).bind fun t =>
 if 0 ≤ t.1 ∧ t.1 < 18446744073709551616 ∧ t.2.1.length ≤ 1000000 then
  (if t.2.2 = 0 ∧ t.1 ≤ t.2.1.length then
   (gaps_Take.f k ((from_ + n) % 4294967296) (t.2.1.take t.1.toNat)).bind fun u => if u.2 = 0 then (if u.1.length ≤ 1000000 then some (u.1, t.2.1.drop t.1.toNat, true) else none) else some ([], [], false)
  else some ([], [], false))
 else none
theorem shard_Shard_vertex.mono : ∀ (a : Int) (n : Nat) (b : List Int) (k : Nat), LeO (shard_Shard_vertex.f k a n b) (shard_Shard_vertex.f (k + 1) a n b) := by
 intro a n b k
 unfold shard_Shard_vertex.f
 refine LeO.trans (LeO.bind (vary_Take.mono b k) (fun t => LeO.refl _)) (LeO.bind (LeO.refl _) (fun t => ?_))
 refine LeO.ite (LeO.ite ?_ (LeO.refl _)) (LeO.refl _)
 exact LeO.bind (gaps_Take.mono _ _ k) (fun u => LeO.refl _)
/-- A Shard in memory: its block q; what its vertices have stands in blocks from m on. -/
def ShIs (W : World) (q m : Nat) (from_ : Int) (next : List (List Int)) (edges : Int) : Prop :=
 m ≤ q ∧ ∃ v, W.heap[q]? = some (.cells #[.int .i64 from_, v, .int .i64 edges] 62) ∧ Kd.N (Kd.slice 31 (Kd.int .u32)) 36 W m (fun k => m ≤ k ∧ k ≠ q) v next
theorem frozen_of_row {W : World} {q i : Nat} {T : TypeId} {cells : Array Value} (h : W.heap[q]? = some (.cells cells T)) : W.frozen? ⟨q, i, none⟩ = false := by simp [World.frozen?, h]
theorem row3_1 {W : World} {q : Nat} {T : TypeId} {a b c : Value} (h : W.heap[q]? = some (.cells #[a, b, c] T)) (u : Value) : (W.setCell ⟨q, 1, none⟩ u).heap[q]? = some (.cells #[a, u, c] T) := heap_setCell_same W q 1 _ T u h
theorem row3_2 {W : World} {q : Nat} {T : TypeId} {a b c : Value} (h : W.heap[q]? = some (.cells #[a, b, c] T)) (u : Value) : (W.setCell ⟨q, 2, none⟩ u).heap[q]? = some (.cells #[a, b, u] T) := heap_setCell_same W q 2 _ T u h
theorem ShIs.below {W W' : World} {q m : Nat} {a e : Int} {l : List (List Int)} (h : ShIs W q m a l e) (hb : Below W.heap.size W W') : ShIs W' q m a l e := by
 obtain ⟨h0, v, h1, h2⟩ := h
 exact ⟨h0, v, (hb.block _ (Array.getElem?_eq_some_iff.1 h1).1).trans h1, Kd.N_below h2 hb⟩
set_option maxHeartbeats 8000000 in
set_option maxRecDepth 100000 in
theorem shard_Shard_vertex.calls (k q m : Nat) (from_ edges : Int) (next : List (List Int)) (A0 : Option Addr) (c0 : Nat) (b : List Int) (r1 r2 : List Int) (r3 : Bool) (w : World) (hS : ShIs w q m from_ next edges) (hr0 : Kd.C (Kd.int .u8) w A0 b.length b) (hc0 : b.length ≤ c0)
  (hf : 0 ≤ from_ ∧ from_ ≤ 4294967296) (hn : next.length ≤ 1000000) (he : 0 ≤ edges ∧ edges ≤ 1000000000000) (h : shard_Shard_vertex.f k from_ next.length b = some (r1, r2, r3)) :
  Calls Try.prog 32 #[.pointer (some ⟨q, 0, none⟩), .slice A0 b.length c0] w fun e w' => ∃ A1 c1, e = .returned (.tuple #[.slice A1 r2.length c1, .bool r3]) ∧ r2.length ≤ c1 ∧ Kd.C (Kd.int .u8) w' A1 r2.length r2 ∧ (r3 = true → ShIs w' q m from_ (next ++ [r1]) (edges + r1.length)) ∧ Below m w w' := by
 obtain ⟨hqm, v, hq, hN⟩ := hS
 have hqw : q < w.heap.size := (Array.getElem?_eq_some_iff.1 hq).1
 have HR0 := Aside0.mk hr0
 have HC0 := Aside0.mk hc0
 have HQ := Aside0.mk hq
 have HN := Aside0.mk hN
 clear hr0 hc0 hq hN
 unfold shard_Shard_vertex.f at h
 obtain ⟨⟨n0, x, e0⟩, ht, h'⟩ := Option.bind_eq_some_iff.mp h
 have HT := Aside0.mk ht
 clear ht h
 simp only at h'
 by_cases hb : 0 ≤ n0 ∧ n0 < 18446744073709551616 ∧ x.length ≤ 1000000
 ·rw [if_pos hb] at h'
  obtain ⟨h1, h2, h3⟩ := hb
  obtain ⟨m1, rfl⟩ := Int.eq_ofNat_of_zero_le h1
  by_cases hok : e0 = 0 ∧ (m1 : Int) ≤ x.length
  ·rw [if_pos hok] at h'
   obtain ⟨rfl, hm1⟩ := hok
   simp only [Int.toNat_natCast] at h'
   obtain ⟨⟨l, e1⟩, hg, h⟩ := Option.bind_eq_some_iff.mp h'
   have HG := Aside0.mk hg
   clear hg h'
   simp only at h
   have d3 : decide (x.length < m1) = false := decide_eq_false (by omega)
   have d4 : decide ((x.length : Int) < (m1 : Int)) = false := decide_eq_false (by omega)
   obtain ⟨An, cn, rfl⟩ := Kd.N_slice HN.out
   obtain ⟨f1, f2⟩ := hf
   have HH := Aside0.mk h
   clear h
   go_enter Try.func32, Try.ntmps32
   go_wp2_with (first | (go_at_call 31; (with_reducible refine (vary_Take.calls k _ _ b _ _ _ _ HR0.out HC0.out HT.out).mono ?_); rintro e w1 ⟨v1, rfl, ho, hb⟩; obtain ⟨Ax, cx, rfl⟩ := Kd.R_slice ho; have HX := Aside0.mk ho; have HB1 := Aside0.mk hb; clear ho hb))
   obtain ⟨n3, hn3, hnc3, hcut3, hFt⟩ := Hand.cut_take (P := Try.prog) 26 .u64 Try.underlying26 (by kernel_rfl) (Kd.R_F HX.out) (Kd.R_reads' HX.out).2.1 m1 (by omega)
   obtain ⟨A6, n6, c6, hn6, hnc6, hcut6, hFr⟩ := Hand.cut_drop (P := Try.prog) 26 .u64 Try.underlying26 (by kernel_rfl) (Kd.R_F (Kd.R_bound HX.out)) (Kd.R_reads' HX.out).2.1 m1 (by omega)
   have hn3' : n3 = m1 := by rw [hn3, List.length_take]; omega
   subst hn3'
   have q1 := (HB1.out.block q hqw).trans HQ.out
   have o0 : w1.cell? ⟨q, 0, none⟩ = some (.int .i64 from_) := cell_of_row _ _ _ _ _ _ q1
   have o1 : w1.cell? ⟨q, 1, none⟩ = some (.slice An next.length cn) := cell_of_row _ _ _ _ _ _ q1
   generalize x.take n3 = y at *
   generalize x.drop n3 = z at *
   subst hn3
   subst hn6
   have HQ1 := Aside0.mk q1
   have HFT := Aside0.mk hFt
   have HFR := Aside0.mk hFr
   have HZ := Aside0.mk hnc6
   have hz1 := HB1.out.size
   clear q1 hFt hFr hnc6
   have hw : IntKind.u32.wrap (IntKind.i64.wrap (from_ + (next.length : Int))) = (from_ + (next.length : Int)) % 4294967296 := by simp only [IntKind.wrap, IntKind.bits, IntKind.signed]; simp; omega
   have HFD := Aside0.mk (Kd.C_drew (Kd.F_now HFT.out))
   go_region_held3 (fun W => W.cell? ⟨q, 0, none⟩ = some (.int .i64 from_) ∧ W.cell? ⟨q, 1, none⟩ = some (.slice An next.length cn)) (first | exact ⟨o0, o1⟩ | exact ⟨p0, p1⟩) (first | (go_at_call 47; (with_reducible refine (gaps_Take.calls k _ _ _ y _ _ _ HFD.out hnc3 HG.out).mono ?_); rintro e w2 ⟨v2, rfl, ho, hb⟩; obtain ⟨Al, cl, rfl⟩ := Kd.R_slice ho; have HL := Aside0.mk ho; have p0 : w2.cell? ⟨q, 0, none⟩ = some (.int .i64 from_) := (hb.cell (World.block_lt_of_cell? w1.drew _ o0)).trans o0; have p1 : w2.cell? ⟨q, 1, none⟩ = some (.slice An next.length cn) := (hb.cell (World.block_lt_of_cell? w1.drew _ o1)).trans o1; have HB2 := Aside0.mk hb; clear ho hb))
   have HBW := Aside0.mk (Below.trans HB1.out (Below.mono (Below.drew (Below.refl w1.heap.size w1)) hz1))
   have hh := HH.out
   clear HH hw
   by_cases hk : e1 = 0
   ·subst hk
    rw [if_pos rfl] at hh
    by_cases hl : l.length ≤ 1000000
    ·rw [if_pos hl] at hh
     obtain ⟨rfl, rfl, rfl⟩ : l = r1 ∧ z = r2 ∧ true = r3 := by
      have h1 := Option.some.inj hh
      exact ⟨congrArg Prod.fst h1, congrArg (fun p => p.2.1) h1, congrArg (fun p => p.2.2) h1⟩
     clear hh
     have hsz1 : w1.heap.size ≤ w2.heap.size := HB2.out.size
     have HBA := Aside0.mk (below_step HBW.out HB2.out)
     have q2 := (HB2.out.block q (by show q < w1.heap.size; omega)).trans (show w1.drew.heap[q]? = _ from HQ1.out)
     have p0 : w2.cell? ⟨q, 0, none⟩ = some (.int .i64 from_) := cell_of_row _ _ _ _ _ _ q2
     have p1 : w2.cell? ⟨q, 1, none⟩ = some (.slice An next.length cn) := cell_of_row _ _ _ _ _ _ q2
     have HN2 := Aside0.mk (Kd.N_below HN.out HBA.out)
     have HNL := Aside0.mk (Kd.N_lt HN.out)
     have HFR2 := Aside0.mk (Kd.F_below (Kd.F_drew HFR.out) HB2.out)
     have HLF := Aside0.mk (Kd.R_F (Kd.R_bound HL.out))
     have HLC := Aside0.mk (Kd.R_reads' HL.out).2.1
     have HQ2 := Aside0.mk q2
     have hlen : (next.length + 1) * 24 ≤ 140737488355328 := by omega
     have HLEN := Aside0.mk hlen
     clear q2 hlen
     have HOK : Aside0 (∀ k_, (w1.heap.size ≤ k_ ∧ k_ < w2.heap.size) → (m ≤ k_ ∧ k_ ≠ q) ∧ some k_ ≠ (Value.slice An next.length cn).ownBlock) := ⟨fun k_ hk => ⟨⟨by omega, by omega⟩, fun e_ => by have := HNL.out k_ e_.symm; omega⟩⟩
     have HFRS : Aside0 (∀ k_, w2.heap.size ≤ k_ → m ≤ k_ ∧ k_ ≠ q) := ⟨fun k_ hk => ⟨by omega, by omega⟩⟩
     have HLF2 := Aside0.mk (show (Kd.slice 31 (Kd.int .u32)).FK w2 (fun k_ => w1.heap.size ≤ k_ ∧ k_ < w2.heap.size) l [Value.slice Al l.length cl] from Kd.FK_slice_mk HLC.out (Kd.F_mono HLF.out (fun k_ hk => (⟨hk.2.1, hk.2.2.1⟩ : w1.heap.size ≤ k_ ∧ k_ < w2.heap.size))))
     have HBM := Aside0.mk (Below.mono HBA.out (Nat.le_trans hqm (Nat.le_of_lt hqw)))
     have HMW : Aside0 (m ≤ w2.heap.size) := ⟨by omega⟩
     have HQO := Aside0.mk (fun k_ (hk : (Value.slice An next.length cn).ownBlock = some k_) => (HN.out.1 k_ hk).2)
     have HQL : Aside0 (q < w2.heap.size) := ⟨by omega⟩
     go_wp2_with (first | ((with_reducible refine gate_dst (N := 51) rfl ?_); refine Kd.N_append (Kd.slice 31 (Kd.int .u32)) (w0 := w) m rfl (.tmp 48) (.tmp 50) 22 36 (.slice none 0 0) 24 rfl Try.underlying22 info36 rfl (by decide) (by decide) (.slice An next.length cn) next l [.slice Al l.length cl] (fun k_ => m ≤ k_ ∧ k_ ≠ q) (fun k_ => w1.heap.size ≤ k_ ∧ k_ < w2.heap.size) rfl rfl HLF2.out HOK.out HFRS.out HN2.out HBM.out HMW.out HLEN.out ?_; intro u7 w4 ho hb hg hat; obtain ⟨Au, cu, rfl⟩ := Kd.N_slice ho; obtain ⟨mm, hmm⟩ : ∃ m_, (next ++ [l]).length = m_ := ⟨_, rfl⟩; rw [hmm] at ho hat ⊢; have HMM := Aside0.mk hmm; clear hmm; have HN4 := Aside0.mk ho; have HB4 := Aside0.mk hb; have HG4 := Aside0.mk hg; have HAT := Aside0.mk hat; have q4 := (hg.block q HQL.out (fun e_ => HQO.out q e_.symm rfl)).trans HQ2.out; have s1 : w4.cell? ⟨q, 1, none⟩ = some (.slice An next.length cn) := cell_of_row _ _ _ _ _ _ q4; have fs1 : w4.frozen? ⟨q, 1, none⟩ = false := frozen_of_row q4; have q5 := row3_1 q4 (.slice Au mm cu); have s2 : (w4.setCell ⟨q, 1, none⟩ (.slice Au mm cu)).cell? ⟨q, 2, none⟩ = some (.int .i64 edges) := cell_of_row _ _ _ _ _ _ q5; have fs2 : (w4.setCell ⟨q, 1, none⟩ (.slice Au mm cu)).frozen? ⟨q, 2, none⟩ = false := frozen_of_row q5; have HQ5 := Aside0.mk q5; clear ho hb hg hat q4 q5))
     go_ret2
     have hoth : ∀ k_, k_ ≠ q → ((w4.setCell ⟨q, 1, none⟩ (.slice Au mm cu)).setCell ⟨q, 2, none⟩ (.int .i64 (edges + (l.length : Int)))).heap[k_]? = w4.heap[k_]? := fun k_ hk => (Below.heap_setCell _ ⟨q, 2, none⟩ _ k_ hk).trans (Below.heap_setCell _ ⟨q, 1, none⟩ _ k_ hk)
     have hb4 := HB4.out
     refine ⟨A6, c6, rfl, HZ.out, Kd.F_now (Kd.F_step HFR2.out (fun k_ hk hlt => ?_)), ⟨hqm, _, row3_2 HQ5.out _, Kd.N_step (by rw [← HMM.out] at *; exact HN4.out) (fun k_ hk hlt => hoth k_ hk.2)⟩, ⟨hb4.os, hb4.tape, hb4.output, by simpa using hb4.size, fun k_ hk => (hoth k_ (by omega)).trans (hb4.block k_ hk)⟩⟩
     exact (hoth k_ (by omega)).trans (HG4.out.block k_ hlt (fun e_ => by have := HNL.out k_ e_.symm; omega))
    ·rw [if_neg hl] at hh
     exact absurd hh (by simp)
   ·rw [if_neg hk] at hh
    obtain ⟨rfl, rfl, rfl⟩ : [] = r1 ∧ [] = r2 ∧ false = r3 := by
     have h1 := Option.some.inj hh
     exact ⟨congrArg Prod.fst h1, congrArg (fun p => p.2.1) h1, congrArg (fun p => p.2.2) h1⟩
    clear hh
    have d5 : (e1 != 0) = true := bne_iff_ne.mpr hk
    have HBA := Aside0.mk (below_step HBW.out HB2.out)
    go_wp2
    go_ret2
    exact ⟨none, 0, rfl, Nat.le_refl _, Kd.F_now (Kd.V_F (Kd.V_nil _ 5 _ 0 (fun _ => True))), fun h_ => absurd h_ (by decide), Below.mono HBA.out (by omega)⟩
  ·rw [if_neg hok] at h'
   obtain ⟨rfl, rfl, rfl⟩ : [] = r1 ∧ [] = r2 ∧ false = r3 := by
    have h1 := Option.some.inj h'
    exact ⟨congrArg Prod.fst h1, congrArg (fun p => p.2.1) h1, congrArg (fun p => p.2.2) h1⟩
   clear h'
   by_cases he0 : e0 = 0
   ·subst he0
    have hm1 : ¬ (m1 : Int) ≤ x.length := fun h_ => hok ⟨rfl, h_⟩
    have d3 : decide (x.length < m1) = true := decide_eq_true (by omega)
    have d4 : decide ((x.length : Int) < (m1 : Int)) = true := decide_eq_true (by omega)
    go_enter Try.func32, Try.ntmps32
    go_wp2_with (first | (go_at_call 31; (with_reducible refine (vary_Take.calls k _ _ b _ _ _ _ HR0.out HC0.out HT.out).mono ?_); rintro e w1 ⟨v1, rfl, ho, hb⟩; obtain ⟨Ax, cx, rfl⟩ := Kd.R_slice ho; have HX := Aside0.mk ho; have HB1 := Aside0.mk hb; clear ho hb))
    go_ret2
    exact ⟨none, 0, rfl, Nat.le_refl _, Kd.F_now (Kd.V_F (Kd.V_nil _ 5 _ 0 (fun _ => True))), fun h_ => absurd h_ (by decide), Below.mono HB1.out (by omega)⟩
   ·have d5 : (e0 != 0) = true := bne_iff_ne.mpr he0
    go_enter Try.func32, Try.ntmps32
    go_wp2_with (first | (go_at_call 31; (with_reducible refine (vary_Take.calls k _ _ b _ _ _ _ HR0.out HC0.out HT.out).mono ?_); rintro e w1 ⟨v1, rfl, ho, hb⟩; obtain ⟨Ax, cx, rfl⟩ := Kd.R_slice ho; have HX := Aside0.mk ho; have HB1 := Aside0.mk hb; clear ho hb))
    go_ret2
    exact ⟨none, 0, rfl, Nat.le_refl _, Kd.F_now (Kd.V_F (Kd.V_nil _ 5 _ 0 (fun _ => True))), fun h_ => absurd h_ (by decide), Below.mono HB1.out (by omega)⟩
 ·rw [if_neg hb] at h'
  exact absurd h' (by simp)

end Go.Proofs.Ytnkjbgoibmbmoaa.Print
