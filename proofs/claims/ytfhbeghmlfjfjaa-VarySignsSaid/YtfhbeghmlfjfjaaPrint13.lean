-- Written by a program of this session (wip/cprint.py), which calls the kit's print and adds contracts proved by hand.
import Derived.Test.YtfhbeghmlfjfjaaPrint0
import Derived.Test.YtfhbeghmlfjfjaaPrint11
import Derived.Test.YtfhbeghmlfjfjaaPrint12
namespace Go.Proofs.Ytfhbeghmlfjfjaa.Print
open Go.RowKit Go.Proofs.YtfhbeghmlfjfjaaW.PrintWords Go.Proofs.YtfhbeghmlfjfjaaW.PrintLast Go.Proofs.YtfhbeghmlfjfjaaW.PrintMore
attribute [local go_sem] max2_int min2_int max_two min_two max_three min_three max_four min_four   -- for this text's walks alone
set_option linter.unusedVariables false
set_option linter.unusedSimpArgs false

/-! ### creellaw01_VarySigns: function 12 -/
def creellaw01_VarySigns.j0 : Nat → Int → Int → Bool → Bool → Option (Bool)
  | 0, _, _, _, _ => none
  | k + 1, x0, x1, x5, x6 => if x5 = true then ((vary_Zig.f x0).bind fun t363 => ((vary_Zag.f t363).bind fun t364 => (if t364 = x0 then ((vary_Zag.f x1).bind fun t365 => ((vary_Zig.f t365).bind fun t366 => (if t366 = x1 then (if (((Go.bits .and .u64 t363 1) == 1) == (decide (x0 < 0))) = true then (if t363 ≤ 2097150 then (some (x6 == (x0 != (-1048576)))) else (some (x6 == false))) else (some false)) else (some false)))) else (some false)))) else (some false)
def creellaw01_VarySigns.f (k : Nat) (a0 : Int) (a1 : Int) : Option (Bool) := (creellaw01_shown.f k).bind fun t362 => (if a0 > (-1048576) then (creellaw01_VarySigns.j0 k a0 a1 t362 (decide (a0 < 1048576))) else (creellaw01_VarySigns.j0 k a0 a1 t362 false))
theorem creellaw01_VarySigns.mono_l : ∀ k, (∀ y0 y1 y2 y3, LeO (creellaw01_VarySigns.j0 k y0 y1 y2 y3) (creellaw01_VarySigns.j0 (k + 1) y0 y1 y2 y3))
  | 0 => fun _ _ _ _ r h => by simp [creellaw01_VarySigns.j0] at h
  | k + 1 => by
    have ih0 := creellaw01_VarySigns.mono_l k
    · intro y0 y1 y2 y3
      unfold creellaw01_VarySigns.j0
      repeat' first
      | (with_reducible exact ih0 _ _ _ _)
      | (with_reducible exact creellaw01_shown.mono _)
      | (with_reducible exact LeO.refl _)
      | (with_reducible exact LeO.none _)
      | (with_reducible refine LeO.ite ?_ ?_)
      | (with_reducible refine LeO.bind ?_ (fun _ => ?_))
      | exact ih0 _ _ _ _
      | exact creellaw01_shown.mono _
      | exact LeO.none _
      | refine LeO.ite ?_ ?_
      | refine LeO.bind ?_ (fun _ => ?_)
theorem creellaw01_VarySigns.mono : ∀ a0 a1 k, LeO (creellaw01_VarySigns.f k a0 a1) (creellaw01_VarySigns.f (k + 1) a0 a1) := by
  intro a0 a1 k
  have ih0 := creellaw01_VarySigns.mono_l k
  unfold creellaw01_VarySigns.f
  repeat' first
      | (with_reducible exact ih0 _ _ _ _)
      | (with_reducible exact creellaw01_shown.mono _)
      | (with_reducible exact LeO.refl _)
      | (with_reducible exact LeO.none _)
      | (with_reducible refine LeO.ite ?_ ?_)
      | (with_reducible refine LeO.bind ?_ (fun _ => ?_))
      | exact ih0 _ _ _ _
      | exact creellaw01_shown.mono _
      | exact LeO.none _
      | refine LeO.ite ?_ ?_
      | refine LeO.bind ?_ (fun _ => ?_)
set_option maxHeartbeats 8000000 in
set_option maxRecDepth 100000 in
theorem creellaw01_VarySigns.calls (k : Nat) (a0 : Int) (a1 : Int) (r : Bool) (w : World) (h : creellaw01_VarySigns.f k a0 a1 = some r) :
    Calls Try.prog 12 #[.int .i64 a0, .int .u64 a1] w fun e w' => e = .returned (.bool r) ∧ Below w.heap.size w w' := by
  have HB := Aside0.mk (Below.refl w.heap.size w)
  have H : ((creellaw01_shown.f k).bind fun t362 => (if a0 > (-1048576) then (creellaw01_VarySigns.j0 k a0 a1 t362 (decide (a0 < 1048576))) else (creellaw01_VarySigns.j0 k a0 a1 t362 false))) = some r := h
  clear h
  replace H := Option.bind_eq_some_iff.mp H
  obtain ⟨t362, A30, H⟩ := H
  replace H : (if a0 > (-1048576) then (creellaw01_VarySigns.j0 k a0 a1 t362 (decide (a0 < 1048576))) else (creellaw01_VarySigns.j0 k a0 a1 t362 false)) = some r := H
  have A3 := Aside0.mk A30
  clear A30
  have HC4 := Aside0.mk H
  clear H
  go_enter Try.func12, Try.ntmps12
  go_upto_region 2 with (first | ((with_reducible refine gate_callee (f := 27) rfl ?_); refine goesL_ (some 7) rfl rfl Try.func27 (by kernel_rfl) rfl #[] rfl (by (try simp only [List.map_toArray, List.map_cons, List.map_nil]); first | done | rfl | (simp only [List.length_drop, List.length_take]; rfl)) ?_; (with_reducible refine (creellaw01_shown.calls k  t362 _ A3.out).mono ?_); rintro e w5 ⟨rfl, hb⟩; refine ⟨_, rfl, ?_⟩; have n0_ := Aside0.mk (below_step (by repeat (first | (with_reducible first | exact HB.out | apply below_alloc | apply pw_below_drewN | apply below_drew1) | exact HB.out)) hb); clear HB; have HB := n0_; clear n0_; (try clear hb); (try clear hb2); (try clear hk); (try clear hi)))
  (try simp only [Act.put, List.setIfInBounds_toArray, List.set_cons_zero, List.set_cons_succ])
  go_cut [6] (fun v6 wc => ∃ (kq : Nat) (x6_3 : Bool), v6 = .bool x6_3 ∧ Aside0 (creellaw01_VarySigns.j0 kq a0 a1 t362 x6_3 = some r) ∧ Aside0 (kq ≤ k) ∧ Aside0 (Below w.heap.size w wc))
  case first =>
    have H := HC4.out
    clear HC4
    by_cases c6 : a0 > (-1048576)
    · rw [if_pos c6] at H
      have c6b0 : decide ((-1048576) < a0) = true := decide_eq_true c6
      clear c6
      (first | rw [c6b0] | (simp only [i64_w, i32_w]; rw [c6b0]) | skip)
      have H' := Aside0.mk H
      clear H
      go_wp2
      go_meet
      case rel => exact ⟨_, (decide (a0 < 1048576)), (by first | rfl | (simp; done) | (simp [*]; done)), H', ⟨by first | omega | exact Nat.le_refl _⟩, ⟨by repeat (first | (with_reducible first | exact HB.out | apply below_alloc | apply pw_below_drewN | apply below_drew1) | exact HB.out)⟩⟩
    · rw [if_neg c6] at H
      have c6b0 : decide ((-1048576) < a0) = false := decide_eq_false c6
      clear c6
      (first | rw [c6b0] | (simp only [i64_w, i32_w]; rw [c6b0]) | skip)
      have H' := Aside0.mk H
      clear H
      go_wp2
      go_meet
      case rel => exact ⟨_, (false), (by first | rfl | (simp; done) | (simp [*]; done)), H', ⟨by first | omega | exact Nat.le_refl _⟩, ⟨by repeat (first | (with_reducible first | exact HB.out | apply below_alloc | apply pw_below_drewN | apply below_drew1) | exact HB.out)⟩⟩
  case rest =>
    clear HC4
    try clear c1
    try clear c2
    try clear p2
    try clear c6
    try clear c6b0
    obtain ⟨kq, x6_3, rfl, HA, HJ3, HB⟩ := hcut
    cases kq with
    | zero => exact absurd HA.out (by simp [creellaw01_VarySigns.j0])
    | succ kj3 =>
      have H := HA.out
      clear HA
      simp only [creellaw01_VarySigns.j0] at H
      by_cases c7 : t362 = true
      · subst c7
        have H1 : ((vary_Zig.f a0).bind fun t363 => ((vary_Zag.f t363).bind fun t364 => (if t364 = a0 then ((vary_Zag.f a1).bind fun t365 => ((vary_Zig.f t365).bind fun t366 => (if t366 = a1 then (if (((Go.bits .and .u64 t363 1) == 1) == (decide (a0 < 0))) = true then (if t363 ≤ 2097150 then (some (x6_3 == (a0 != (-1048576)))) else (some (x6_3 == false))) else (some false)) else (some false)))) else (some false)))) = some r := by rw [if_pos rfl] at H; exact H
        clear H
        have H := H1
        clear H1
        replace H := Option.bind_eq_some_iff.mp H
        obtain ⟨t363, A80, H⟩ := H
        replace H : ((vary_Zag.f t363).bind fun t364 => (if t364 = a0 then ((vary_Zag.f a1).bind fun t365 => ((vary_Zig.f t365).bind fun t366 => (if t366 = a1 then (if (((Go.bits .and .u64 t363 1) == 1) == (decide (a0 < 0))) = true then (if t363 ≤ 2097150 then (some (x6_3 == (a0 != (-1048576)))) else (some (x6_3 == false))) else (some false)) else (some false)))) else (some false))) = some r := H
        have A8 := Aside0.mk A80
        clear A80
        replace H := Option.bind_eq_some_iff.mp H
        obtain ⟨t364, A90, H⟩ := H
        replace H : (if t364 = a0 then ((vary_Zag.f a1).bind fun t365 => ((vary_Zig.f t365).bind fun t366 => (if t366 = a1 then (if (((Go.bits .and .u64 t363 1) == 1) == (decide (a0 < 0))) = true then (if t363 ≤ 2097150 then (some (x6_3 == (a0 != (-1048576)))) else (some (x6_3 == false))) else (some false)) else (some false)))) else (some false)) = some r := H
        have A9 := Aside0.mk A90
        clear A90
        by_cases c10 : t364 = a0
        · rw [if_pos c10] at H
          have c10b0 : (t364 == a0) = true := beq_iff_eq.mpr c10
          have c10b1 : (t364 != a0) = false := bne_eq_false_iff_eq.mpr c10
          clear c10
          replace H := Option.bind_eq_some_iff.mp H
          obtain ⟨t365, A110, H⟩ := H
          replace H : ((vary_Zig.f t365).bind fun t366 => (if t366 = a1 then (if (((Go.bits .and .u64 t363 1) == 1) == (decide (a0 < 0))) = true then (if t363 ≤ 2097150 then (some (x6_3 == (a0 != (-1048576)))) else (some (x6_3 == false))) else (some false)) else (some false))) = some r := H
          have A11 := Aside0.mk A110
          clear A110
          replace H := Option.bind_eq_some_iff.mp H
          obtain ⟨t366, A120, H⟩ := H
          replace H : (if t366 = a1 then (if (((Go.bits .and .u64 t363 1) == 1) == (decide (a0 < 0))) = true then (if t363 ≤ 2097150 then (some (x6_3 == (a0 != (-1048576)))) else (some (x6_3 == false))) else (some false)) else (some false)) = some r := H
          have A12 := Aside0.mk A120
          clear A120
          by_cases c13 : t366 = a1
          · rw [if_pos c13] at H
            have c13b0 : (t366 == a1) = true := beq_iff_eq.mpr c13
            have c13b1 : (t366 != a1) = false := bne_eq_false_iff_eq.mpr c13
            clear c13
            by_cases c14 : (((Go.bits .and .u64 t363 1) == 1) == (decide (a0 < 0))) = true
            · rw [if_pos c14] at H
              have c14b0 : (((Go.bits .and .u64 t363 1) == 1) == (decide (a0 < 0))) = true := c14
              (try (have c14b1 : decide (((Go.bits .and .u64 t363 1) == 1) = (decide (a0 < 0))) = true := by simpa using c14))
              (try (have c14b2 : (((Go.bits .and .u64 t363 1) == 1) == (decide (a0 < 0))) = true := by simpa using c14))
              clear c14
              by_cases c15 : t363 ≤ 2097150
              · rw [if_pos c15] at H
                have c15b0 : decide (t363 ≤ 2097150) = true := decide_eq_true c15
                clear c15
                obtain rfl := Option.some.inj H
                go_wp2_with (first | (go_at_call 32; (with_reducible refine (vary_Zig.calls a0 t363 _ A8.out).mono ?_); rintro e w' ⟨rfl, ⟨nd, rfl⟩⟩) | (go_at_call 31; (with_reducible refine (vary_Zag.calls t363 t364 _ A9.out).mono ?_); rintro e w' ⟨rfl, ⟨nd, rfl⟩⟩) | (go_at_call 31; (with_reducible refine (vary_Zag.calls a1 t365 _ A11.out).mono ?_); rintro e w' ⟨rfl, ⟨nd, rfl⟩⟩) | (go_at_call 32; (with_reducible refine (vary_Zig.calls t365 t366 _ A12.out).mono ?_); rintro e w' ⟨rfl, ⟨nd, rfl⟩⟩))
                go_ret
                exact ⟨by first | rfl | (simp [errW_none, errW_some] <;> rfl) | (simp [*, errW_none, errW_some] <;> rfl), by repeat (first | (with_reducible first | exact HB.out | apply below_alloc | apply pw_below_drewN | apply below_drew1) | exact HB.out)⟩
              · rw [if_neg c15] at H
                have c15b0 : decide (t363 ≤ 2097150) = false := decide_eq_false c15
                clear c15
                obtain rfl := Option.some.inj H
                go_wp2_with (first | (go_at_call 32; (with_reducible refine (vary_Zig.calls a0 t363 _ A8.out).mono ?_); rintro e w' ⟨rfl, ⟨nd, rfl⟩⟩) | (go_at_call 31; (with_reducible refine (vary_Zag.calls t363 t364 _ A9.out).mono ?_); rintro e w' ⟨rfl, ⟨nd, rfl⟩⟩) | (go_at_call 31; (with_reducible refine (vary_Zag.calls a1 t365 _ A11.out).mono ?_); rintro e w' ⟨rfl, ⟨nd, rfl⟩⟩) | (go_at_call 32; (with_reducible refine (vary_Zig.calls t365 t366 _ A12.out).mono ?_); rintro e w' ⟨rfl, ⟨nd, rfl⟩⟩))
                go_ret
                exact ⟨by first | rfl | (simp [errW_none, errW_some] <;> rfl) | (simp [*, errW_none, errW_some] <;> rfl), by repeat (first | (with_reducible first | exact HB.out | apply below_alloc | apply pw_below_drewN | apply below_drew1) | exact HB.out)⟩
            · rw [if_neg c14] at H
              have c14b0 : (((Go.bits .and .u64 t363 1) == 1) == (decide (a0 < 0))) = false := by simpa using c14
              (try (have c14b1 : decide (((Go.bits .and .u64 t363 1) == 1) = (decide (a0 < 0))) = false := by simpa using c14))
              (try (have c14b2 : (((Go.bits .and .u64 t363 1) == 1) == (decide (a0 < 0))) = false := by simpa using c14))
              (try (have c14b3 : ¬ (((Go.bits .and .u64 t363 1) == 1) = (decide (a0 < 0))) := by simpa using c14))
              clear c14
              obtain rfl := Option.some.inj H
              go_wp2_with (first | (go_at_call 32; (with_reducible refine (vary_Zig.calls a0 t363 _ A8.out).mono ?_); rintro e w' ⟨rfl, ⟨nd, rfl⟩⟩) | (go_at_call 31; (with_reducible refine (vary_Zag.calls t363 t364 _ A9.out).mono ?_); rintro e w' ⟨rfl, ⟨nd, rfl⟩⟩) | (go_at_call 31; (with_reducible refine (vary_Zag.calls a1 t365 _ A11.out).mono ?_); rintro e w' ⟨rfl, ⟨nd, rfl⟩⟩) | (go_at_call 32; (with_reducible refine (vary_Zig.calls t365 t366 _ A12.out).mono ?_); rintro e w' ⟨rfl, ⟨nd, rfl⟩⟩))
              go_ret
              exact ⟨by first | rfl | (simp [errW_none, errW_some] <;> rfl) | (simp [*, errW_none, errW_some] <;> rfl), by repeat (first | (with_reducible first | exact HB.out | apply below_alloc | apply pw_below_drewN | apply below_drew1) | exact HB.out)⟩
          · rw [if_neg c13] at H
            have c13b0 : (t366 == a1) = false := beq_eq_false_iff_ne.mpr c13
            have c13b1 : (t366 != a1) = true := bne_iff_ne.mpr c13
            obtain rfl := Option.some.inj H
            go_wp2_with (first | (go_at_call 32; (with_reducible refine (vary_Zig.calls a0 t363 _ A8.out).mono ?_); rintro e w' ⟨rfl, ⟨nd, rfl⟩⟩) | (go_at_call 31; (with_reducible refine (vary_Zag.calls t363 t364 _ A9.out).mono ?_); rintro e w' ⟨rfl, ⟨nd, rfl⟩⟩) | (go_at_call 31; (with_reducible refine (vary_Zag.calls a1 t365 _ A11.out).mono ?_); rintro e w' ⟨rfl, ⟨nd, rfl⟩⟩) | (go_at_call 32; (with_reducible refine (vary_Zig.calls t365 t366 _ A12.out).mono ?_); rintro e w' ⟨rfl, ⟨nd, rfl⟩⟩))
            go_ret
            exact ⟨by first | rfl | (simp [errW_none, errW_some] <;> rfl) | (simp [*, errW_none, errW_some] <;> rfl), by repeat (first | (with_reducible first | exact HB.out | apply below_alloc | apply pw_below_drewN | apply below_drew1) | exact HB.out)⟩
        · rw [if_neg c10] at H
          have c10b0 : (t364 == a0) = false := beq_eq_false_iff_ne.mpr c10
          have c10b1 : (t364 != a0) = true := bne_iff_ne.mpr c10
          obtain rfl := Option.some.inj H
          go_wp2_with (first | (go_at_call 32; (with_reducible refine (vary_Zig.calls a0 t363 _ A8.out).mono ?_); rintro e w' ⟨rfl, ⟨nd, rfl⟩⟩) | (go_at_call 31; (with_reducible refine (vary_Zag.calls t363 t364 _ A9.out).mono ?_); rintro e w' ⟨rfl, ⟨nd, rfl⟩⟩))
          go_ret
          exact ⟨by first | rfl | (simp [errW_none, errW_some] <;> rfl) | (simp [*, errW_none, errW_some] <;> rfl), by repeat (first | (with_reducible first | exact HB.out | apply below_alloc | apply pw_below_drewN | apply below_drew1) | exact HB.out)⟩
      · replace c7 := Bool.eq_false_iff.mpr c7
        subst c7
        have H1 : (some false) = some r := by rw [if_neg (show ¬ (false = true) by decide)] at H; exact H
        clear H
        have H := H1
        clear H1
        obtain rfl := Option.some.inj H
        go_wp2
        go_ret
        exact ⟨by first | rfl | (simp [errW_none, errW_some] <;> rfl) | (simp [*, errW_none, errW_some] <;> rfl), by repeat (first | (with_reducible first | exact HB.out | apply below_alloc | apply pw_below_drewN | apply below_drew1) | exact HB.out)⟩

/-- THE ONE PURE STATEMENT of creellaw01_VarySigns: yours. -/
def creellaw01_VarySigns.Pure : Prop := ∀ (a0 : Int) (a1 : Int), (Lit.int .i64 a0).wf = true → (Lit.int .u64 a1).wf = true → ∃ k, creellaw01_VarySigns.f k a0 a1 = some true
theorem creellaw01_VarySigns.walk (P : creellaw01_VarySigns.Pure) (a0 : Int) (a1 : Int) (w : World) (w0 : (Lit.int .i64 a0).wf = true) (w1 : (Lit.int .u64 a1).wf = true) :
    Calls Try.prog 12 #[.int .i64 a0, .int .u64 a1] w fun e w' => e = .returned (.bool true) ∧ Below w.heap.size w w' := by
  obtain ⟨k, h⟩ := P a0 a1 w0 w1
  refine (creellaw01_VarySigns.calls k a0 a1 true w h).mono ?_
  rintro e w' ⟨rfl, hd⟩
  exact ⟨rfl, hd⟩

end Go.Proofs.Ytfhbeghmlfjfjaa.Print
