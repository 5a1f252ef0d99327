-- Written by a program of this session (wip/cprint.py), which calls the kit's print and adds contracts proved by hand.
import Derived.Test.YtfhbeghmlfjfjaaPrint0
import Derived.Test.YtfhbeghmlfjfjaaPrint2
import Derived.Test.YtfhbeghmlfjfjaaPrint4
namespace Go.Proofs.Ytfhbeghmlfjfjaa.Print
open Go.RowKit Go.Proofs.YtfhbeghmlfjfjaaW.PrintWords Go.Proofs.YtfhbeghmlfjfjaaW.PrintLast Go.Proofs.YtfhbeghmlfjfjaaW.PrintMore
attribute [local go_sem] max2_int min2_int max_two min_two max_three min_three max_four min_four   -- for this text's walks alone
set_option linter.unusedVariables false
set_option linter.unusedSimpArgs false

/-! ### creellaw19_PartTells: function 4 -/
def creellaw19_PartTells.f (k : Nat) (a0 : Int) (a1 : Int) (a2 : Int) (a3 : Int) : Option (Bool) := (part_Range.f a0 a1 a2).bind fun bt137 => ((creelref19_Range.f a0 a1 a2).bind fun bt139 => ((part_Of.f k a0 a1 a3).bind fun bt141 => ((creelref19_Of.f k a0 a1 a3).bind fun bt143 => ((creellaw19_shown.f k).bind fun t145 => (if t145 = true then (if bt137.1 = bt139.1 then (if bt137.2 = bt139.2 then (if bt141.1 = bt143.1 then (some (bt141.2 == bt143.2)) else (some false)) else (some false)) else (some false)) else (some false))))))
theorem creellaw19_PartTells.mono : ∀ a0 a1 a2 a3 k, LeO (creellaw19_PartTells.f k a0 a1 a2 a3) (creellaw19_PartTells.f (k + 1) a0 a1 a2 a3) := by
  intro a0 a1 a2 a3 k
  unfold creellaw19_PartTells.f
  repeat' first
      | (with_reducible exact creellaw19_shown.mono _)
      | (with_reducible exact creelref19_Of.mono _ _ _ _)
      | (with_reducible exact part_Of.mono _ _ _ _)
      | (with_reducible exact LeO.refl _)
      | (with_reducible exact LeO.none _)
      | (with_reducible refine LeO.ite ?_ ?_)
      | (with_reducible refine LeO.bind ?_ (fun _ => ?_))
      | exact creellaw19_shown.mono _
      | exact creelref19_Of.mono _ _ _ _
      | exact part_Of.mono _ _ _ _
      | exact LeO.none _
      | refine LeO.ite ?_ ?_
      | refine LeO.bind ?_ (fun _ => ?_)
set_option maxHeartbeats 8000000 in
set_option maxRecDepth 100000 in
theorem creellaw19_PartTells.calls (k : Nat) (a0 : Int) (a1 : Int) (a2 : Int) (a3 : Int) (r : Bool) (w : World) (h : creellaw19_PartTells.f k a0 a1 a2 a3 = some r) :
    Calls Try.prog 4 #[.int .i64 a0, .int .i64 a1, .int .i64 a2, .int .i64 a3] w fun e w' => e = .returned (.bool r) ∧ Below w.heap.size w w' := by
  have HB := Aside0.mk (Below.refl w.heap.size w)
  have H : ((part_Range.f a0 a1 a2).bind fun bt137 => ((creelref19_Range.f a0 a1 a2).bind fun bt139 => ((part_Of.f k a0 a1 a3).bind fun bt141 => ((creelref19_Of.f k a0 a1 a3).bind fun bt143 => ((creellaw19_shown.f k).bind fun t145 => (if t145 = true then (if bt137.1 = bt139.1 then (if bt137.2 = bt139.2 then (if bt141.1 = bt143.1 then (some (bt141.2 == bt143.2)) else (some false)) else (some false)) else (some false)) else (some false))))))) = some r := h
  clear h
  replace H := Option.bind_eq_some_iff.mp H
  obtain ⟨⟨t137, t138⟩, A50, H⟩ := H
  replace H : ((creelref19_Range.f a0 a1 a2).bind fun bt139 => ((part_Of.f k a0 a1 a3).bind fun bt141 => ((creelref19_Of.f k a0 a1 a3).bind fun bt143 => ((creellaw19_shown.f k).bind fun t145 => (if t145 = true then (if t137 = bt139.1 then (if t138 = bt139.2 then (if bt141.1 = bt143.1 then (some (bt141.2 == bt143.2)) else (some false)) else (some false)) else (some false)) else (some false)))))) = some r := H
  have A5 := Aside0.mk A50
  clear A50
  replace H := Option.bind_eq_some_iff.mp H
  obtain ⟨⟨t139, t140⟩, A60, H⟩ := H
  replace H : ((part_Of.f k a0 a1 a3).bind fun bt141 => ((creelref19_Of.f k a0 a1 a3).bind fun bt143 => ((creellaw19_shown.f k).bind fun t145 => (if t145 = true then (if t137 = t139 then (if t138 = t140 then (if bt141.1 = bt143.1 then (some (bt141.2 == bt143.2)) else (some false)) else (some false)) else (some false)) else (some false))))) = some r := H
  have A6 := Aside0.mk A60
  clear A60
  replace H := Option.bind_eq_some_iff.mp H
  obtain ⟨⟨t141, t142⟩, A70, H⟩ := H
  replace H : ((creelref19_Of.f k a0 a1 a3).bind fun bt143 => ((creellaw19_shown.f k).bind fun t145 => (if t145 = true then (if t137 = t139 then (if t138 = t140 then (if t141 = bt143.1 then (some (t142 == bt143.2)) else (some false)) else (some false)) else (some false)) else (some false)))) = some r := H
  have A7 := Aside0.mk A70
  clear A70
  replace H := Option.bind_eq_some_iff.mp H
  obtain ⟨⟨t143, t144⟩, A80, H⟩ := H
  replace H : ((creellaw19_shown.f k).bind fun t145 => (if t145 = true then (if t137 = t139 then (if t138 = t140 then (if t141 = t143 then (some (t142 == t144)) else (some false)) else (some false)) else (some false)) else (some false))) = some r := H
  have A8 := Aside0.mk A80
  clear A80
  replace H := Option.bind_eq_some_iff.mp H
  obtain ⟨t145, A90, H⟩ := H
  replace H : (if t145 = true then (if t137 = t139 then (if t138 = t140 then (if t141 = t143 then (some (t142 == t144)) else (some false)) else (some false)) else (some false)) else (some false)) = some r := H
  have A9 := Aside0.mk A90
  clear A90
  by_cases c10 : t145 = true
  · subst c10
    have H1 : (if t137 = t139 then (if t138 = t140 then (if t141 = t143 then (some (t142 == t144)) else (some false)) else (some false)) else (some false)) = some r := by rw [if_pos rfl] at H; exact H
    clear H
    have H := H1
    clear H1
    by_cases c11 : t137 = t139
    · rw [if_pos c11] at H
      have c11b0 : (t137 == t139) = true := beq_iff_eq.mpr c11
      have c11b1 : (t137 != t139) = false := bne_eq_false_iff_eq.mpr c11
      clear c11
      by_cases c12 : t138 = t140
      · rw [if_pos c12] at H
        have c12b0 : (t138 == t140) = true := beq_iff_eq.mpr c12
        have c12b1 : (t138 != t140) = false := bne_eq_false_iff_eq.mpr c12
        clear c12
        by_cases c13 : t141 = t143
        · rw [if_pos c13] at H
          have c13b0 : (t141 == t143) = true := beq_iff_eq.mpr c13
          have c13b1 : (t141 != t143) = false := bne_eq_false_iff_eq.mpr c13
          clear c13
          obtain rfl := Option.some.inj H
          go_enter Try.func4, Try.ntmps4
          go_wp2_with (first | ((with_reducible refine gate_callee (f := 17) rfl ?_); refine goesL_ (some 21) rfl rfl Try.func17 (by kernel_rfl) rfl #[.int .i64 a0, .int .i64 a1, .int .i64 a2] rfl (by (try simp only [List.map_toArray, List.map_cons, List.map_nil]); first | done | rfl | (simp only [List.length_drop, List.length_take]; rfl)) ?_; (with_reducible refine (part_Range.calls a0 a1 a2 t137 t138 _ A5.out).mono ?_); rintro e w' ⟨rfl, ⟨nd, rfl⟩⟩; refine ⟨_, rfl, ?_⟩) | ((with_reducible refine gate_callee (f := 18) rfl ?_); refine goesL_ (some 28) rfl rfl Try.func18 (by kernel_rfl) rfl #[.int .i64 a0, .int .i64 a1, .int .i64 a2] rfl (by (try simp only [List.map_toArray, List.map_cons, List.map_nil]); first | done | rfl | (simp only [List.length_drop, List.length_take]; rfl)) ?_; (with_reducible refine (creelref19_Range.calls a0 a1 a2 t139 t140 _ A6.out).mono ?_); rintro e w' ⟨rfl, ⟨nd, rfl⟩⟩; refine ⟨_, rfl, ?_⟩) | ((with_reducible refine gate_callee (f := 19) rfl ?_); refine goesL_ (some 35) rfl rfl Try.func19 (by kernel_rfl) rfl #[.int .i64 a0, .int .i64 a1, .int .i64 a3] rfl (by (try simp only [List.map_toArray, List.map_cons, List.map_nil]); first | done | rfl | (simp only [List.length_drop, List.length_take]; rfl)) ?_; (with_reducible refine (part_Of.calls k a0 a1 a3 t141 t142 _ A7.out).mono ?_); rintro e w' ⟨rfl, ⟨nd, rfl⟩⟩; refine ⟨_, rfl, ?_⟩) | ((with_reducible refine gate_callee (f := 20) rfl ?_); refine goesL_ (some 42) rfl rfl Try.func20 (by kernel_rfl) rfl #[.int .i64 a0, .int .i64 a1, .int .i64 a3] rfl (by (try simp only [List.map_toArray, List.map_cons, List.map_nil]); first | done | rfl | (simp only [List.length_drop, List.length_take]; rfl)) ?_; (with_reducible refine (creelref19_Of.calls k a0 a1 a3 t143 t144 _ A8.out).mono ?_); rintro e w' ⟨rfl, ⟨nd, rfl⟩⟩; refine ⟨_, rfl, ?_⟩) | ((with_reducible refine gate_callee (f := 15) rfl ?_); refine goesL_ (some 45) rfl rfl Try.func15 (by kernel_rfl) rfl #[] rfl (by (try simp only [List.map_toArray, List.map_cons, List.map_nil]); first | done | rfl | (simp only [List.length_drop, List.length_take]; rfl)) ?_; (with_reducible refine (creellaw19_shown.calls k  true _ A9.out).mono ?_); rintro e w14 ⟨rfl, hb⟩; refine ⟨_, rfl, ?_⟩; have n0_ := Aside0.mk (below_step (by repeat (first | (with_reducible first | exact HB.out | apply below_alloc | apply pw_below_drewN | apply below_drew1) | exact HB.out)) hb); clear HB; have HB := n0_; clear n0_; (try clear hb); (try clear hb2); (try clear hk); (try clear hi)))
          go_ret
          exact ⟨by first | rfl | (simp [errW_none, errW_some] <;> rfl) | (simp [*, errW_none, errW_some] <;> rfl), by repeat (first | (with_reducible first | exact HB.out | apply below_alloc | apply pw_below_drewN | apply below_drew1) | exact HB.out)⟩
        · rw [if_neg c13] at H
          have c13b0 : (t141 == t143) = false := beq_eq_false_iff_ne.mpr c13
          have c13b1 : (t141 != t143) = true := bne_iff_ne.mpr c13
          obtain rfl := Option.some.inj H
          go_enter Try.func4, Try.ntmps4
          go_wp2_with (first | ((with_reducible refine gate_callee (f := 17) rfl ?_); refine goesL_ (some 21) rfl rfl Try.func17 (by kernel_rfl) rfl #[.int .i64 a0, .int .i64 a1, .int .i64 a2] rfl (by (try simp only [List.map_toArray, List.map_cons, List.map_nil]); first | done | rfl | (simp only [List.length_drop, List.length_take]; rfl)) ?_; (with_reducible refine (part_Range.calls a0 a1 a2 t137 t138 _ A5.out).mono ?_); rintro e w' ⟨rfl, ⟨nd, rfl⟩⟩; refine ⟨_, rfl, ?_⟩) | ((with_reducible refine gate_callee (f := 18) rfl ?_); refine goesL_ (some 28) rfl rfl Try.func18 (by kernel_rfl) rfl #[.int .i64 a0, .int .i64 a1, .int .i64 a2] rfl (by (try simp only [List.map_toArray, List.map_cons, List.map_nil]); first | done | rfl | (simp only [List.length_drop, List.length_take]; rfl)) ?_; (with_reducible refine (creelref19_Range.calls a0 a1 a2 t139 t140 _ A6.out).mono ?_); rintro e w' ⟨rfl, ⟨nd, rfl⟩⟩; refine ⟨_, rfl, ?_⟩) | ((with_reducible refine gate_callee (f := 19) rfl ?_); refine goesL_ (some 35) rfl rfl Try.func19 (by kernel_rfl) rfl #[.int .i64 a0, .int .i64 a1, .int .i64 a3] rfl (by (try simp only [List.map_toArray, List.map_cons, List.map_nil]); first | done | rfl | (simp only [List.length_drop, List.length_take]; rfl)) ?_; (with_reducible refine (part_Of.calls k a0 a1 a3 t141 t142 _ A7.out).mono ?_); rintro e w' ⟨rfl, ⟨nd, rfl⟩⟩; refine ⟨_, rfl, ?_⟩) | ((with_reducible refine gate_callee (f := 20) rfl ?_); refine goesL_ (some 42) rfl rfl Try.func20 (by kernel_rfl) rfl #[.int .i64 a0, .int .i64 a1, .int .i64 a3] rfl (by (try simp only [List.map_toArray, List.map_cons, List.map_nil]); first | done | rfl | (simp only [List.length_drop, List.length_take]; rfl)) ?_; (with_reducible refine (creelref19_Of.calls k a0 a1 a3 t143 t144 _ A8.out).mono ?_); rintro e w' ⟨rfl, ⟨nd, rfl⟩⟩; refine ⟨_, rfl, ?_⟩) | ((with_reducible refine gate_callee (f := 15) rfl ?_); refine goesL_ (some 45) rfl rfl Try.func15 (by kernel_rfl) rfl #[] rfl (by (try simp only [List.map_toArray, List.map_cons, List.map_nil]); first | done | rfl | (simp only [List.length_drop, List.length_take]; rfl)) ?_; (with_reducible refine (creellaw19_shown.calls k  true _ A9.out).mono ?_); rintro e w15 ⟨rfl, hb⟩; refine ⟨_, rfl, ?_⟩; have n0_ := Aside0.mk (below_step (by repeat (first | (with_reducible first | exact HB.out | apply below_alloc | apply pw_below_drewN | apply below_drew1) | exact HB.out)) hb); clear HB; have HB := n0_; clear n0_; (try clear hb); (try clear hb2); (try clear hk); (try clear hi)))
          go_ret
          exact ⟨by first | rfl | (simp [errW_none, errW_some] <;> rfl) | (simp [*, errW_none, errW_some] <;> rfl), by repeat (first | (with_reducible first | exact HB.out | apply below_alloc | apply pw_below_drewN | apply below_drew1) | exact HB.out)⟩
      · rw [if_neg c12] at H
        have c12b0 : (t138 == t140) = false := beq_eq_false_iff_ne.mpr c12
        have c12b1 : (t138 != t140) = true := bne_iff_ne.mpr c12
        obtain rfl := Option.some.inj H
        go_enter Try.func4, Try.ntmps4
        go_wp2_with (first | ((with_reducible refine gate_callee (f := 17) rfl ?_); refine goesL_ (some 21) rfl rfl Try.func17 (by kernel_rfl) rfl #[.int .i64 a0, .int .i64 a1, .int .i64 a2] rfl (by (try simp only [List.map_toArray, List.map_cons, List.map_nil]); first | done | rfl | (simp only [List.length_drop, List.length_take]; rfl)) ?_; (with_reducible refine (part_Range.calls a0 a1 a2 t137 t138 _ A5.out).mono ?_); rintro e w' ⟨rfl, ⟨nd, rfl⟩⟩; refine ⟨_, rfl, ?_⟩) | ((with_reducible refine gate_callee (f := 18) rfl ?_); refine goesL_ (some 28) rfl rfl Try.func18 (by kernel_rfl) rfl #[.int .i64 a0, .int .i64 a1, .int .i64 a2] rfl (by (try simp only [List.map_toArray, List.map_cons, List.map_nil]); first | done | rfl | (simp only [List.length_drop, List.length_take]; rfl)) ?_; (with_reducible refine (creelref19_Range.calls a0 a1 a2 t139 t140 _ A6.out).mono ?_); rintro e w' ⟨rfl, ⟨nd, rfl⟩⟩; refine ⟨_, rfl, ?_⟩) | ((with_reducible refine gate_callee (f := 19) rfl ?_); refine goesL_ (some 35) rfl rfl Try.func19 (by kernel_rfl) rfl #[.int .i64 a0, .int .i64 a1, .int .i64 a3] rfl (by (try simp only [List.map_toArray, List.map_cons, List.map_nil]); first | done | rfl | (simp only [List.length_drop, List.length_take]; rfl)) ?_; (with_reducible refine (part_Of.calls k a0 a1 a3 t141 t142 _ A7.out).mono ?_); rintro e w' ⟨rfl, ⟨nd, rfl⟩⟩; refine ⟨_, rfl, ?_⟩) | ((with_reducible refine gate_callee (f := 20) rfl ?_); refine goesL_ (some 42) rfl rfl Try.func20 (by kernel_rfl) rfl #[.int .i64 a0, .int .i64 a1, .int .i64 a3] rfl (by (try simp only [List.map_toArray, List.map_cons, List.map_nil]); first | done | rfl | (simp only [List.length_drop, List.length_take]; rfl)) ?_; (with_reducible refine (creelref19_Of.calls k a0 a1 a3 t143 t144 _ A8.out).mono ?_); rintro e w' ⟨rfl, ⟨nd, rfl⟩⟩; refine ⟨_, rfl, ?_⟩) | ((with_reducible refine gate_callee (f := 15) rfl ?_); refine goesL_ (some 45) rfl rfl Try.func15 (by kernel_rfl) rfl #[] rfl (by (try simp only [List.map_toArray, List.map_cons, List.map_nil]); first | done | rfl | (simp only [List.length_drop, List.length_take]; rfl)) ?_; (with_reducible refine (creellaw19_shown.calls k  true _ A9.out).mono ?_); rintro e w16 ⟨rfl, hb⟩; refine ⟨_, rfl, ?_⟩; have n0_ := Aside0.mk (below_step (by repeat (first | (with_reducible first | exact HB.out | apply below_alloc | apply pw_below_drewN | apply below_drew1) | exact HB.out)) hb); clear HB; have HB := n0_; clear n0_; (try clear hb); (try clear hb2); (try clear hk); (try clear hi)))
        go_ret
        exact ⟨by first | rfl | (simp [errW_none, errW_some] <;> rfl) | (simp [*, errW_none, errW_some] <;> rfl), by repeat (first | (with_reducible first | exact HB.out | apply below_alloc | apply pw_below_drewN | apply below_drew1) | exact HB.out)⟩
    · rw [if_neg c11] at H
      have c11b0 : (t137 == t139) = false := beq_eq_false_iff_ne.mpr c11
      have c11b1 : (t137 != t139) = true := bne_iff_ne.mpr c11
      obtain rfl := Option.some.inj H
      go_enter Try.func4, Try.ntmps4
      go_wp2_with (first | ((with_reducible refine gate_callee (f := 17) rfl ?_); refine goesL_ (some 21) rfl rfl Try.func17 (by kernel_rfl) rfl #[.int .i64 a0, .int .i64 a1, .int .i64 a2] rfl (by (try simp only [List.map_toArray, List.map_cons, List.map_nil]); first | done | rfl | (simp only [List.length_drop, List.length_take]; rfl)) ?_; (with_reducible refine (part_Range.calls a0 a1 a2 t137 t138 _ A5.out).mono ?_); rintro e w' ⟨rfl, ⟨nd, rfl⟩⟩; refine ⟨_, rfl, ?_⟩) | ((with_reducible refine gate_callee (f := 18) rfl ?_); refine goesL_ (some 28) rfl rfl Try.func18 (by kernel_rfl) rfl #[.int .i64 a0, .int .i64 a1, .int .i64 a2] rfl (by (try simp only [List.map_toArray, List.map_cons, List.map_nil]); first | done | rfl | (simp only [List.length_drop, List.length_take]; rfl)) ?_; (with_reducible refine (creelref19_Range.calls a0 a1 a2 t139 t140 _ A6.out).mono ?_); rintro e w' ⟨rfl, ⟨nd, rfl⟩⟩; refine ⟨_, rfl, ?_⟩) | ((with_reducible refine gate_callee (f := 19) rfl ?_); refine goesL_ (some 35) rfl rfl Try.func19 (by kernel_rfl) rfl #[.int .i64 a0, .int .i64 a1, .int .i64 a3] rfl (by (try simp only [List.map_toArray, List.map_cons, List.map_nil]); first | done | rfl | (simp only [List.length_drop, List.length_take]; rfl)) ?_; (with_reducible refine (part_Of.calls k a0 a1 a3 t141 t142 _ A7.out).mono ?_); rintro e w' ⟨rfl, ⟨nd, rfl⟩⟩; refine ⟨_, rfl, ?_⟩) | ((with_reducible refine gate_callee (f := 20) rfl ?_); refine goesL_ (some 42) rfl rfl Try.func20 (by kernel_rfl) rfl #[.int .i64 a0, .int .i64 a1, .int .i64 a3] rfl (by (try simp only [List.map_toArray, List.map_cons, List.map_nil]); first | done | rfl | (simp only [List.length_drop, List.length_take]; rfl)) ?_; (with_reducible refine (creelref19_Of.calls k a0 a1 a3 t143 t144 _ A8.out).mono ?_); rintro e w' ⟨rfl, ⟨nd, rfl⟩⟩; refine ⟨_, rfl, ?_⟩) | ((with_reducible refine gate_callee (f := 15) rfl ?_); refine goesL_ (some 45) rfl rfl Try.func15 (by kernel_rfl) rfl #[] rfl (by (try simp only [List.map_toArray, List.map_cons, List.map_nil]); first | done | rfl | (simp only [List.length_drop, List.length_take]; rfl)) ?_; (with_reducible refine (creellaw19_shown.calls k  true _ A9.out).mono ?_); rintro e w17 ⟨rfl, hb⟩; refine ⟨_, rfl, ?_⟩; have n0_ := Aside0.mk (below_step (by repeat (first | (with_reducible first | exact HB.out | apply below_alloc | apply pw_below_drewN | apply below_drew1) | exact HB.out)) hb); clear HB; have HB := n0_; clear n0_; (try clear hb); (try clear hb2); (try clear hk); (try clear hi)))
      go_ret
      exact ⟨by first | rfl | (simp [errW_none, errW_some] <;> rfl) | (simp [*, errW_none, errW_some] <;> rfl), by repeat (first | (with_reducible first | exact HB.out | apply below_alloc | apply pw_below_drewN | apply below_drew1) | exact HB.out)⟩
  · replace c10 := Bool.eq_false_iff.mpr c10
    subst c10
    have H1 : (some false) = some r := by rw [if_neg (show ¬ (false = true) by decide)] at H; exact H
    clear H
    have H := H1
    clear H1
    obtain rfl := Option.some.inj H
    go_enter Try.func4, Try.ntmps4
    go_wp2_with (first | ((with_reducible refine gate_callee (f := 17) rfl ?_); refine goesL_ (some 21) rfl rfl Try.func17 (by kernel_rfl) rfl #[.int .i64 a0, .int .i64 a1, .int .i64 a2] rfl (by (try simp only [List.map_toArray, List.map_cons, List.map_nil]); first | done | rfl | (simp only [List.length_drop, List.length_take]; rfl)) ?_; (with_reducible refine (part_Range.calls a0 a1 a2 t137 t138 _ A5.out).mono ?_); rintro e w' ⟨rfl, ⟨nd, rfl⟩⟩; refine ⟨_, rfl, ?_⟩) | ((with_reducible refine gate_callee (f := 18) rfl ?_); refine goesL_ (some 28) rfl rfl Try.func18 (by kernel_rfl) rfl #[.int .i64 a0, .int .i64 a1, .int .i64 a2] rfl (by (try simp only [List.map_toArray, List.map_cons, List.map_nil]); first | done | rfl | (simp only [List.length_drop, List.length_take]; rfl)) ?_; (with_reducible refine (creelref19_Range.calls a0 a1 a2 t139 t140 _ A6.out).mono ?_); rintro e w' ⟨rfl, ⟨nd, rfl⟩⟩; refine ⟨_, rfl, ?_⟩) | ((with_reducible refine gate_callee (f := 19) rfl ?_); refine goesL_ (some 35) rfl rfl Try.func19 (by kernel_rfl) rfl #[.int .i64 a0, .int .i64 a1, .int .i64 a3] rfl (by (try simp only [List.map_toArray, List.map_cons, List.map_nil]); first | done | rfl | (simp only [List.length_drop, List.length_take]; rfl)) ?_; (with_reducible refine (part_Of.calls k a0 a1 a3 t141 t142 _ A7.out).mono ?_); rintro e w' ⟨rfl, ⟨nd, rfl⟩⟩; refine ⟨_, rfl, ?_⟩) | ((with_reducible refine gate_callee (f := 20) rfl ?_); refine goesL_ (some 42) rfl rfl Try.func20 (by kernel_rfl) rfl #[.int .i64 a0, .int .i64 a1, .int .i64 a3] rfl (by (try simp only [List.map_toArray, List.map_cons, List.map_nil]); first | done | rfl | (simp only [List.length_drop, List.length_take]; rfl)) ?_; (with_reducible refine (creelref19_Of.calls k a0 a1 a3 t143 t144 _ A8.out).mono ?_); rintro e w' ⟨rfl, ⟨nd, rfl⟩⟩; refine ⟨_, rfl, ?_⟩) | ((with_reducible refine gate_callee (f := 15) rfl ?_); refine goesL_ (some 45) rfl rfl Try.func15 (by kernel_rfl) rfl #[] rfl (by (try simp only [List.map_toArray, List.map_cons, List.map_nil]); first | done | rfl | (simp only [List.length_drop, List.length_take]; rfl)) ?_; (with_reducible refine (creellaw19_shown.calls k  false _ A9.out).mono ?_); rintro e w18 ⟨rfl, hb⟩; refine ⟨_, rfl, ?_⟩; have n0_ := Aside0.mk (below_step (by repeat (first | (with_reducible first | exact HB.out | apply below_alloc | apply pw_below_drewN | apply below_drew1) | exact HB.out)) hb); clear HB; have HB := n0_; clear n0_; (try clear hb); (try clear hb2); (try clear hk); (try clear hi)))
    go_ret
    exact ⟨by first | rfl | (simp [errW_none, errW_some] <;> rfl) | (simp [*, errW_none, errW_some] <;> rfl), by repeat (first | (with_reducible first | exact HB.out | apply below_alloc | apply pw_below_drewN | apply below_drew1) | exact HB.out)⟩

/-- THE ONE PURE STATEMENT of creellaw19_PartTells: yours. -/
def creellaw19_PartTells.Pure : Prop := ∀ (a0 : Int) (a1 : Int) (a2 : Int) (a3 : Int), (Lit.int .i64 a0).wf = true → (Lit.int .i64 a1).wf = true → (Lit.int .i64 a2).wf = true → (Lit.int .i64 a3).wf = true → ∃ k, creellaw19_PartTells.f k a0 a1 a2 a3 = some true
theorem creellaw19_PartTells.walk (P : creellaw19_PartTells.Pure) (a0 : Int) (a1 : Int) (a2 : Int) (a3 : Int) (w : World) (w0 : (Lit.int .i64 a0).wf = true) (w1 : (Lit.int .i64 a1).wf = true) (w2 : (Lit.int .i64 a2).wf = true) (w3 : (Lit.int .i64 a3).wf = true) :
    Calls Try.prog 4 #[.int .i64 a0, .int .i64 a1, .int .i64 a2, .int .i64 a3] w fun e w' => e = .returned (.bool true) ∧ Below w.heap.size w w' := by
  obtain ⟨k, h⟩ := P a0 a1 a2 a3 w0 w1 w2 w3
  refine (creellaw19_PartTells.calls k a0 a1 a2 a3 true w h).mono ?_
  rintro e w' ⟨rfl, hd⟩
  exact ⟨rfl, hd⟩

/-! ### creellaw19_PartWhole: function 5 -/
def creellaw19_PartWhole.l0 : Nat → Int → Bool → Int → Int → Int → Int → Int → Option (Bool)
  | 0, _, _, _, _, _, _, _ => none
  | k + 1, x2, x7, x8, x9, x10, x31, x32 => if x32 < x31 then ((part_Range.f x8 x9 x32).bind fun bt147 => (if bt147.1 = x10 then (if bt147.2 < bt147.1 then (some false) else (if x9 = 0 then (none) else (if (wrap64 (bt147.2 - bt147.1)) < (wrap64 (Int.tdiv x8 x9)) then (some false) else (if (wrap64 (bt147.2 - bt147.1)) > (wrap64 ((wrap64 (Int.tdiv x8 x9)) + 1)) then (some false) else (creellaw19_PartWhole.l0 k x2 x7 x8 x9 bt147.2 x31 (wrap64 (x32 + 1))))))) else (some false))) else (if x10 = x8 then (if x8 = 0 then ((part_Of.f k x8 x9 (wrap64 (x2 / 2))).bind fun bt149 => (if x7 = true then (some (!bt149.2)) else (some false))) else (if (IntKind.u64.wrap (x8)) = 0 then (none) else ((part_Of.f k x8 x9 (wrap64 (Int.tmod x2 (IntKind.u64.wrap (x8))))).bind fun bt151 => ((part_Range.f x8 x9 bt151.1).bind fun bt153 => ((part_Of.f k x8 x9 x8).bind fun bt155 => (if x7 = true then (if bt151.2 = true then (if (wrap64 (Int.tmod x2 (IntKind.u64.wrap (x8)))) ≥ bt153.1 then (if (wrap64 (Int.tmod x2 (IntKind.u64.wrap (x8)))) < bt153.2 then (some (!bt155.2)) else (some false)) else (some false)) else (some false)) else (some false))))))) else (some false))
def creellaw19_PartWhole.f (k : Nat) (a0 : Int) (a1 : Int) (a2 : Int) : Option (Bool) := (creellaw19_shown.f k).bind fun t146 => (creellaw19_PartWhole.l0 k a2 t146 (wrap64 (Int.tmod a0 4294967297)) (wrap64 ((wrap64 (Int.tmod a1 16)) + 1)) 0 (wrap64 ((wrap64 (Int.tmod a1 16)) + 1)) 0)
theorem creellaw19_PartWhole.mono_l : ∀ k, (∀ y0 y1 y2 y3 y4 y5 y6, LeO (creellaw19_PartWhole.l0 k y0 y1 y2 y3 y4 y5 y6) (creellaw19_PartWhole.l0 (k + 1) y0 y1 y2 y3 y4 y5 y6))
  | 0 => fun _ _ _ _ _ _ _ r h => by simp [creellaw19_PartWhole.l0] at h
  | k + 1 => by
    have ih0 := creellaw19_PartWhole.mono_l k
    · intro y0 y1 y2 y3 y4 y5 y6
      unfold creellaw19_PartWhole.l0
      repeat' first
      | (with_reducible exact ih0 _ _ _ _ _ _ _)
      | (with_reducible exact creellaw19_shown.mono _)
      | (with_reducible exact part_Of.mono _ _ _ _)
      | (with_reducible exact LeO.refl _)
      | (with_reducible exact LeO.none _)
      | (with_reducible refine LeO.ite ?_ ?_)
      | (with_reducible refine LeO.bind ?_ (fun _ => ?_))
      | exact ih0 _ _ _ _ _ _ _
      | exact creellaw19_shown.mono _
      | exact part_Of.mono _ _ _ _
      | exact LeO.none _
      | refine LeO.ite ?_ ?_
      | refine LeO.bind ?_ (fun _ => ?_)
theorem creellaw19_PartWhole.mono : ∀ a0 a1 a2 k, LeO (creellaw19_PartWhole.f k a0 a1 a2) (creellaw19_PartWhole.f (k + 1) a0 a1 a2) := by
  intro a0 a1 a2 k
  have ih0 := creellaw19_PartWhole.mono_l k
  unfold creellaw19_PartWhole.f
  repeat' first
      | (with_reducible exact ih0 _ _ _ _ _ _ _)
      | (with_reducible exact creellaw19_shown.mono _)
      | (with_reducible exact part_Of.mono _ _ _ _)
      | (with_reducible exact LeO.refl _)
      | (with_reducible exact LeO.none _)
      | (with_reducible refine LeO.ite ?_ ?_)
      | (with_reducible refine LeO.bind ?_ (fun _ => ?_))
      | exact ih0 _ _ _ _ _ _ _
      | exact creellaw19_shown.mono _
      | exact part_Of.mono _ _ _ _
      | exact LeO.none _
      | refine LeO.ite ?_ ?_
      | refine LeO.bind ?_ (fun _ => ?_)
set_option maxHeartbeats 8000000 in
set_option maxRecDepth 100000 in
theorem creellaw19_PartWhole.calls (k : Nat) (a0 : Int) (a1 : Int) (a2 : Int) (r : Bool) (w : World) (h : creellaw19_PartWhole.f k a0 a1 a2 = some r) :
    Calls Try.prog 5 #[.int .u64 a0, .int .u8 a1, .int .u64 a2] w fun e w' => e = .returned (.bool r) ∧ Below w.heap.size w w' := by
  have HB := Aside0.mk (Below.refl w.heap.size w)
  have H : ((creellaw19_shown.f k).bind fun t146 => (creellaw19_PartWhole.l0 k a2 t146 (wrap64 (Int.tmod a0 4294967297)) (wrap64 ((wrap64 (Int.tmod a1 16)) + 1)) 0 (wrap64 ((wrap64 (Int.tmod a1 16)) + 1)) 0)) = some r := h
  clear h
  replace H := Option.bind_eq_some_iff.mp H
  obtain ⟨t146, A40, H⟩ := H
  replace H : (creellaw19_PartWhole.l0 k a2 t146 (wrap64 (Int.tmod a0 4294967297)) (wrap64 ((wrap64 (Int.tmod a1 16)) + 1)) 0 (wrap64 ((wrap64 (Int.tmod a1 16)) + 1)) 0) = some r := H
  have A4 := Aside0.mk A40
  clear A40
  have H' := Aside0.mk H
  clear H
  go_enter Try.func5, Try.ntmps5
  go_wp2_with (first | ((with_reducible refine gate_callee (f := 15) rfl ?_); refine goesL_ (some 23) rfl rfl Try.func15 (by kernel_rfl) rfl #[] rfl (by (try simp only [List.map_toArray, List.map_cons, List.map_nil]); first | done | rfl | (simp only [List.length_drop, List.length_take]; rfl)) ?_; (with_reducible refine (creellaw19_shown.calls k  t146 _ A4.out).mono ?_); rintro e w5 ⟨rfl, hb⟩; refine ⟨_, rfl, ?_⟩; have n0_ := Aside0.mk (below_step (by repeat (first | (with_reducible first | exact HB.out | apply below_alloc | apply pw_below_drewN | apply below_drew1) | exact HB.out)) hb); clear HB; have HB := n0_; clear n0_; (try clear hb); (try clear hb2); (try clear hk); (try clear hi)))
  go_loopg [10, 32] k (fun kq v10 v32 w' => ∃ (x10_1 : Int) (x32_1 : Int), v10 = .int .i64 x10_1 ∧ v32 = .int .i64 x32_1 ∧ Aside0 (creellaw19_PartWhole.l0 kq a2 t146 (wrap64 (Int.tmod a0 4294967297)) (wrap64 ((wrap64 (Int.tmod a1 16)) + 1)) x10_1 (wrap64 ((wrap64 (Int.tmod a1 16)) + 1)) x32_1 = some r) ∧ Aside0 (kq ≤ k) ∧ Aside0 (Below w.heap.size w w'))
  case atStart => exact ⟨(0), (0), (by first | rfl | (simp; done) | (simp [*]; done)), (by first | rfl | (simp; done) | (simp [*]; done)), H', ⟨Nat.le_refl _⟩, ⟨by repeat (first | (with_reducible first | exact HB.out | apply below_alloc | apply pw_below_drewN | apply below_drew1) | exact HB.out)⟩⟩
  case round =>
    clear H'
    try clear c1
    try clear p2
    try clear c5
    obtain ⟨x10_1, x32_1, rfl, rfl, HA, HK1, HB⟩ := hrel
    cases gk with
    | zero => exact absurd HA.out (by simp [creellaw19_PartWhole.l0])
    | succ k1 =>
      have H := HA.out
      clear HA
      simp only [creellaw19_PartWhole.l0] at H
      by_cases c6 : x32_1 < (wrap64 ((wrap64 (Int.tmod a1 16)) + 1))
      · rw [if_pos c6] at H
        have c6b0 : decide (x32_1 < (wrap64 ((wrap64 (Int.tmod a1 16)) + 1))) = true := decide_eq_true c6
        clear c6
        replace H := Option.bind_eq_some_iff.mp H
        obtain ⟨⟨t147, t148⟩, A70, H⟩ := H
        replace H : (if t147 = x10_1 then (if t148 < t147 then (some false) else (if (wrap64 ((wrap64 (Int.tmod a1 16)) + 1)) = 0 then (none) else (if (wrap64 (t148 - t147)) < (wrap64 (Int.tdiv (wrap64 (Int.tmod a0 4294967297)) (wrap64 ((wrap64 (Int.tmod a1 16)) + 1)))) then (some false) else (if (wrap64 (t148 - t147)) > (wrap64 ((wrap64 (Int.tdiv (wrap64 (Int.tmod a0 4294967297)) (wrap64 ((wrap64 (Int.tmod a1 16)) + 1)))) + 1)) then (some false) else (creellaw19_PartWhole.l0 k1 a2 t146 (wrap64 (Int.tmod a0 4294967297)) (wrap64 ((wrap64 (Int.tmod a1 16)) + 1)) t148 (wrap64 ((wrap64 (Int.tmod a1 16)) + 1)) (wrap64 (x32_1 + 1))))))) else (some false)) = some r := H
        have A7 := Aside0.mk A70
        clear A70
        by_cases c8 : t147 = x10_1
        · rw [if_pos c8] at H
          have c8b0 : (t147 == x10_1) = true := beq_iff_eq.mpr c8
          have c8b1 : (t147 != x10_1) = false := bne_eq_false_iff_eq.mpr c8
          clear c8
          by_cases c9 : t148 < t147
          · rw [if_pos c9] at H
            have c9b0 : decide (t148 < t147) = true := decide_eq_true c9
            clear c9
            obtain rfl := Option.some.inj H
            go_wp2_with (first | ((with_reducible refine gate_callee (f := 17) rfl ?_); refine goesL_ (some 39) rfl rfl Try.func17 (by kernel_rfl) rfl #[.int .i64 (wrap64 (Int.tmod a0 4294967297)), .int .i64 (wrap64 ((wrap64 (Int.tmod a1 16)) + 1)), .int .i64 x32_1] rfl (by (try simp only [List.map_toArray, List.map_cons, List.map_nil]); first | done | rfl | (simp only [List.length_drop, List.length_take]; rfl)) ?_; (with_reducible refine (part_Range.calls (wrap64 (Int.tmod a0 4294967297)) (wrap64 ((wrap64 (Int.tmod a1 16)) + 1)) x32_1 t147 t148 _ A7.out).mono ?_); rintro e w' ⟨rfl, ⟨nd, rfl⟩⟩; refine ⟨_, rfl, ?_⟩))
            go_ret
            exact ⟨by first | rfl | (simp [errW_none, errW_some] <;> rfl) | (simp [*, errW_none, errW_some] <;> rfl), by repeat (first | (with_reducible first | exact HB.out | apply below_alloc | apply pw_below_drewN | apply below_drew1) | exact HB.out)⟩
          · rw [if_neg c9] at H
            have c9b0 : decide (t148 < t147) = false := decide_eq_false c9
            clear c9
            by_cases c10 : (wrap64 ((wrap64 (Int.tmod a1 16)) + 1)) = 0
            · rw [if_pos c10] at H
              exact absurd H (by simp)
            · rw [if_neg c10] at H
              have c10b0 : ((wrap64 ((wrap64 (Int.tmod a1 16)) + 1)) == 0) = false := beq_eq_false_iff_ne.mpr c10
              have c10b1 : ((wrap64 ((wrap64 (Int.tmod a1 16)) + 1)) != 0) = true := bne_iff_ne.mpr c10
              by_cases c11 : (wrap64 (t148 - t147)) < (wrap64 (Int.tdiv (wrap64 (Int.tmod a0 4294967297)) (wrap64 ((wrap64 (Int.tmod a1 16)) + 1))))
              · rw [if_pos c11] at H
                have c11b0 : decide ((wrap64 (t148 - t147)) < (wrap64 (Int.tdiv (wrap64 (Int.tmod a0 4294967297)) (wrap64 ((wrap64 (Int.tmod a1 16)) + 1))))) = true := decide_eq_true c11
                clear c11
                obtain rfl := Option.some.inj H
                go_wp2_with (first | ((with_reducible refine gate_callee (f := 17) rfl ?_); refine goesL_ (some 39) rfl rfl Try.func17 (by kernel_rfl) rfl #[.int .i64 (wrap64 (Int.tmod a0 4294967297)), .int .i64 (wrap64 ((wrap64 (Int.tmod a1 16)) + 1)), .int .i64 x32_1] rfl (by (try simp only [List.map_toArray, List.map_cons, List.map_nil]); first | done | rfl | (simp only [List.length_drop, List.length_take]; rfl)) ?_; (with_reducible refine (part_Range.calls (wrap64 (Int.tmod a0 4294967297)) (wrap64 ((wrap64 (Int.tmod a1 16)) + 1)) x32_1 t147 t148 _ A7.out).mono ?_); rintro e w' ⟨rfl, ⟨nd, rfl⟩⟩; refine ⟨_, rfl, ?_⟩))
                go_ret
                exact ⟨by first | rfl | (simp [errW_none, errW_some] <;> rfl) | (simp [*, errW_none, errW_some] <;> rfl), by repeat (first | (with_reducible first | exact HB.out | apply below_alloc | apply pw_below_drewN | apply below_drew1) | exact HB.out)⟩
              · rw [if_neg c11] at H
                have c11b0 : decide ((wrap64 (t148 - t147)) < (wrap64 (Int.tdiv (wrap64 (Int.tmod a0 4294967297)) (wrap64 ((wrap64 (Int.tmod a1 16)) + 1))))) = false := decide_eq_false c11
                clear c11
                by_cases c12 : (wrap64 (t148 - t147)) > (wrap64 ((wrap64 (Int.tdiv (wrap64 (Int.tmod a0 4294967297)) (wrap64 ((wrap64 (Int.tmod a1 16)) + 1)))) + 1))
                · rw [if_pos c12] at H
                  have c12b0 : decide ((wrap64 ((wrap64 (Int.tdiv (wrap64 (Int.tmod a0 4294967297)) (wrap64 ((wrap64 (Int.tmod a1 16)) + 1)))) + 1)) < (wrap64 (t148 - t147))) = true := decide_eq_true c12
                  clear c12
                  obtain rfl := Option.some.inj H
                  go_wp2_with (first | ((with_reducible refine gate_callee (f := 17) rfl ?_); refine goesL_ (some 39) rfl rfl Try.func17 (by kernel_rfl) rfl #[.int .i64 (wrap64 (Int.tmod a0 4294967297)), .int .i64 (wrap64 ((wrap64 (Int.tmod a1 16)) + 1)), .int .i64 x32_1] rfl (by (try simp only [List.map_toArray, List.map_cons, List.map_nil]); first | done | rfl | (simp only [List.length_drop, List.length_take]; rfl)) ?_; (with_reducible refine (part_Range.calls (wrap64 (Int.tmod a0 4294967297)) (wrap64 ((wrap64 (Int.tmod a1 16)) + 1)) x32_1 t147 t148 _ A7.out).mono ?_); rintro e w' ⟨rfl, ⟨nd, rfl⟩⟩; refine ⟨_, rfl, ?_⟩))
                  go_ret
                  exact ⟨by first | rfl | (simp [errW_none, errW_some] <;> rfl) | (simp [*, errW_none, errW_some] <;> rfl), by repeat (first | (with_reducible first | exact HB.out | apply below_alloc | apply pw_below_drewN | apply below_drew1) | exact HB.out)⟩
                · rw [if_neg c12] at H
                  have c12b0 : decide ((wrap64 ((wrap64 (Int.tdiv (wrap64 (Int.tmod a0 4294967297)) (wrap64 ((wrap64 (Int.tmod a1 16)) + 1)))) + 1)) < (wrap64 (t148 - t147))) = false := decide_eq_false c12
                  clear c12
                  have H' := Aside0.mk H
                  clear H
                  go_wp2_with (first | ((with_reducible refine gate_callee (f := 17) rfl ?_); refine goesL_ (some 39) rfl rfl Try.func17 (by kernel_rfl) rfl #[.int .i64 (wrap64 (Int.tmod a0 4294967297)), .int .i64 (wrap64 ((wrap64 (Int.tmod a1 16)) + 1)), .int .i64 x32_1] rfl (by (try simp only [List.map_toArray, List.map_cons, List.map_nil]); first | done | rfl | (simp only [List.length_drop, List.length_take]; rfl)) ?_; (with_reducible refine (part_Range.calls (wrap64 (Int.tmod a0 4294967297)) (wrap64 ((wrap64 (Int.tmod a1 16)) + 1)) x32_1 t147 t148 _ A7.out).mono ?_); rintro e w' ⟨rfl, ⟨nd, rfl⟩⟩; refine ⟨_, rfl, ?_⟩))
                  go_roundg k1
                  case measure => have := HK1.out; omega
                  case rel => exact ⟨(t148), (wrap64 (x32_1 + 1)), (by first | rfl | (simp; done) | (simp [*]; done)), (by first | rfl | (simp; done) | (simp [*]; done)), H', ⟨by have := HK1.out; omega⟩, ⟨by repeat (first | (with_reducible first | exact HB.out | apply below_alloc | apply pw_below_drewN | apply below_drew1) | exact HB.out)⟩⟩
        · rw [if_neg c8] at H
          have c8b0 : (t147 == x10_1) = false := beq_eq_false_iff_ne.mpr c8
          have c8b1 : (t147 != x10_1) = true := bne_iff_ne.mpr c8
          obtain rfl := Option.some.inj H
          go_wp2_with (first | ((with_reducible refine gate_callee (f := 17) rfl ?_); refine goesL_ (some 39) rfl rfl Try.func17 (by kernel_rfl) rfl #[.int .i64 (wrap64 (Int.tmod a0 4294967297)), .int .i64 (wrap64 ((wrap64 (Int.tmod a1 16)) + 1)), .int .i64 x32_1] rfl (by (try simp only [List.map_toArray, List.map_cons, List.map_nil]); first | done | rfl | (simp only [List.length_drop, List.length_take]; rfl)) ?_; (with_reducible refine (part_Range.calls (wrap64 (Int.tmod a0 4294967297)) (wrap64 ((wrap64 (Int.tmod a1 16)) + 1)) x32_1 t147 t148 _ A7.out).mono ?_); rintro e w' ⟨rfl, ⟨nd, rfl⟩⟩; refine ⟨_, rfl, ?_⟩))
          go_ret
          exact ⟨by first | rfl | (simp [errW_none, errW_some] <;> rfl) | (simp [*, errW_none, errW_some] <;> rfl), by repeat (first | (with_reducible first | exact HB.out | apply below_alloc | apply pw_below_drewN | apply below_drew1) | exact HB.out)⟩
      · rw [if_neg c6] at H
        have c6b0 : decide (x32_1 < (wrap64 ((wrap64 (Int.tmod a1 16)) + 1))) = false := decide_eq_false c6
        clear c6
        by_cases c13 : x10_1 = (wrap64 (Int.tmod a0 4294967297))
        · rw [if_pos c13] at H
          have c13b0 : (x10_1 == (wrap64 (Int.tmod a0 4294967297))) = true := beq_iff_eq.mpr c13
          have c13b1 : (x10_1 != (wrap64 (Int.tmod a0 4294967297))) = false := bne_eq_false_iff_eq.mpr c13
          clear c13
          by_cases c14 : (wrap64 (Int.tmod a0 4294967297)) = 0
          · rw [if_pos c14] at H
            have c14b0 : ((wrap64 (Int.tmod a0 4294967297)) == 0) = true := beq_iff_eq.mpr c14
            have c14b1 : ((wrap64 (Int.tmod a0 4294967297)) != 0) = false := bne_eq_false_iff_eq.mpr c14
            clear c14
            replace H := Option.bind_eq_some_iff.mp H
            obtain ⟨⟨t149, t150⟩, A150, H⟩ := H
            replace H : (if t146 = true then (some (!t150)) else (some false)) = some r := H
            have A15 := Aside0.mk A150
            clear A150
            by_cases c16 : t146 = true
            · subst c16
              have H1 : (some (!t150)) = some r := by rw [if_pos rfl] at H; exact H
              clear H
              have H := H1
              clear H1
              obtain rfl := Option.some.inj H
              go_wp2_with (first | ((with_reducible refine gate_callee (f := 19) rfl ?_); refine goesL_ (some 82) rfl rfl Try.func19 (by kernel_rfl) rfl #[.int .i64 (wrap64 (Int.tmod a0 4294967297)), .int .i64 (wrap64 ((wrap64 (Int.tmod a1 16)) + 1)), .int .i64 (wrap64 (a2 / 2))] rfl (by (try simp only [List.map_toArray, List.map_cons, List.map_nil]); first | done | rfl | (simp only [List.length_drop, List.length_take]; rfl)) ?_; (with_reducible refine (part_Of.calls k1 (wrap64 (Int.tmod a0 4294967297)) (wrap64 ((wrap64 (Int.tmod a1 16)) + 1)) (wrap64 (a2 / 2)) t149 t150 _ A15.out).mono ?_); rintro e w' ⟨rfl, ⟨nd, rfl⟩⟩; refine ⟨_, rfl, ?_⟩))
              go_ret
              exact ⟨by first | rfl | (simp [errW_none, errW_some] <;> rfl) | (simp [*, errW_none, errW_some] <;> rfl), by repeat (first | (with_reducible first | exact HB.out | apply below_alloc | apply pw_below_drewN | apply below_drew1) | exact HB.out)⟩
            · replace c16 := Bool.eq_false_iff.mpr c16
              subst c16
              have H1 : (some false) = some r := by rw [if_neg (show ¬ (false = true) by decide)] at H; exact H
              clear H
              have H := H1
              clear H1
              obtain rfl := Option.some.inj H
              go_wp2_with (first | ((with_reducible refine gate_callee (f := 19) rfl ?_); refine goesL_ (some 82) rfl rfl Try.func19 (by kernel_rfl) rfl #[.int .i64 (wrap64 (Int.tmod a0 4294967297)), .int .i64 (wrap64 ((wrap64 (Int.tmod a1 16)) + 1)), .int .i64 (wrap64 (a2 / 2))] rfl (by (try simp only [List.map_toArray, List.map_cons, List.map_nil]); first | done | rfl | (simp only [List.length_drop, List.length_take]; rfl)) ?_; (with_reducible refine (part_Of.calls k1 (wrap64 (Int.tmod a0 4294967297)) (wrap64 ((wrap64 (Int.tmod a1 16)) + 1)) (wrap64 (a2 / 2)) t149 t150 _ A15.out).mono ?_); rintro e w' ⟨rfl, ⟨nd, rfl⟩⟩; refine ⟨_, rfl, ?_⟩))
              go_ret
              exact ⟨by first | rfl | (simp [errW_none, errW_some] <;> rfl) | (simp [*, errW_none, errW_some] <;> rfl), by repeat (first | (with_reducible first | exact HB.out | apply below_alloc | apply pw_below_drewN | apply below_drew1) | exact HB.out)⟩
          · rw [if_neg c14] at H
            have c14b0 : ((wrap64 (Int.tmod a0 4294967297)) == 0) = false := beq_eq_false_iff_ne.mpr c14
            have c14b1 : ((wrap64 (Int.tmod a0 4294967297)) != 0) = true := bne_iff_ne.mpr c14
            by_cases c17 : (IntKind.u64.wrap ((wrap64 (Int.tmod a0 4294967297)))) = 0
            · rw [if_pos c17] at H
              exact absurd H (by simp)
            · rw [if_neg c17] at H
              have c17b0 : ((IntKind.u64.wrap ((wrap64 (Int.tmod a0 4294967297)))) == 0) = false := beq_eq_false_iff_ne.mpr c17
              have c17b1 : ((IntKind.u64.wrap ((wrap64 (Int.tmod a0 4294967297)))) != 0) = true := bne_iff_ne.mpr c17
              replace H := Option.bind_eq_some_iff.mp H
              obtain ⟨⟨t151, t152⟩, A180, H⟩ := H
              replace H : ((part_Range.f (wrap64 (Int.tmod a0 4294967297)) (wrap64 ((wrap64 (Int.tmod a1 16)) + 1)) t151).bind fun bt153 => ((part_Of.f k1 (wrap64 (Int.tmod a0 4294967297)) (wrap64 ((wrap64 (Int.tmod a1 16)) + 1)) (wrap64 (Int.tmod a0 4294967297))).bind fun bt155 => (if t146 = true then (if t152 = true then (if (wrap64 (Int.tmod a2 (IntKind.u64.wrap ((wrap64 (Int.tmod a0 4294967297)))))) ≥ bt153.1 then (if (wrap64 (Int.tmod a2 (IntKind.u64.wrap ((wrap64 (Int.tmod a0 4294967297)))))) < bt153.2 then (some (!bt155.2)) else (some false)) else (some false)) else (some false)) else (some false)))) = some r := H
              have A18 := Aside0.mk A180
              clear A180
              replace H := Option.bind_eq_some_iff.mp H
              obtain ⟨⟨t153, t154⟩, A190, H⟩ := H
              replace H : ((part_Of.f k1 (wrap64 (Int.tmod a0 4294967297)) (wrap64 ((wrap64 (Int.tmod a1 16)) + 1)) (wrap64 (Int.tmod a0 4294967297))).bind fun bt155 => (if t146 = true then (if t152 = true then (if (wrap64 (Int.tmod a2 (IntKind.u64.wrap ((wrap64 (Int.tmod a0 4294967297)))))) ≥ t153 then (if (wrap64 (Int.tmod a2 (IntKind.u64.wrap ((wrap64 (Int.tmod a0 4294967297)))))) < t154 then (some (!bt155.2)) else (some false)) else (some false)) else (some false)) else (some false))) = some r := H
              have A19 := Aside0.mk A190
              clear A190
              replace H := Option.bind_eq_some_iff.mp H
              obtain ⟨⟨t155, t156⟩, A200, H⟩ := H
              replace H : (if t146 = true then (if t152 = true then (if (wrap64 (Int.tmod a2 (IntKind.u64.wrap ((wrap64 (Int.tmod a0 4294967297)))))) ≥ t153 then (if (wrap64 (Int.tmod a2 (IntKind.u64.wrap ((wrap64 (Int.tmod a0 4294967297)))))) < t154 then (some (!t156)) else (some false)) else (some false)) else (some false)) else (some false)) = some r := H
              have A20 := Aside0.mk A200
              clear A200
              by_cases c21 : t146 = true
              · subst c21
                have H1 : (if t152 = true then (if (wrap64 (Int.tmod a2 (IntKind.u64.wrap ((wrap64 (Int.tmod a0 4294967297)))))) ≥ t153 then (if (wrap64 (Int.tmod a2 (IntKind.u64.wrap ((wrap64 (Int.tmod a0 4294967297)))))) < t154 then (some (!t156)) else (some false)) else (some false)) else (some false)) = some r := by rw [if_pos rfl] at H; exact H
                clear H
                have H := H1
                clear H1
                by_cases c22 : t152 = true
                · subst c22
                  have H1 : (if (wrap64 (Int.tmod a2 (IntKind.u64.wrap ((wrap64 (Int.tmod a0 4294967297)))))) ≥ t153 then (if (wrap64 (Int.tmod a2 (IntKind.u64.wrap ((wrap64 (Int.tmod a0 4294967297)))))) < t154 then (some (!t156)) else (some false)) else (some false)) = some r := by rw [if_pos rfl] at H; exact H
                  clear H
                  have H := H1
                  clear H1
                  by_cases c23 : (wrap64 (Int.tmod a2 (IntKind.u64.wrap ((wrap64 (Int.tmod a0 4294967297)))))) ≥ t153
                  · rw [if_pos c23] at H
                    have c23b0 : decide (t153 ≤ (wrap64 (Int.tmod a2 (IntKind.u64.wrap ((wrap64 (Int.tmod a0 4294967297))))))) = true := decide_eq_true c23
                    clear c23
                    by_cases c24 : (wrap64 (Int.tmod a2 (IntKind.u64.wrap ((wrap64 (Int.tmod a0 4294967297)))))) < t154
                    · rw [if_pos c24] at H
                      have c24b0 : decide ((wrap64 (Int.tmod a2 (IntKind.u64.wrap ((wrap64 (Int.tmod a0 4294967297)))))) < t154) = true := decide_eq_true c24
                      clear c24
                      obtain rfl := Option.some.inj H
                      go_wp2_with (first | ((with_reducible refine gate_callee (f := 19) rfl ?_); refine goesL_ (some 99) rfl rfl Try.func19 (by kernel_rfl) rfl #[.int .i64 (wrap64 (Int.tmod a0 4294967297)), .int .i64 (wrap64 ((wrap64 (Int.tmod a1 16)) + 1)), .int .i64 (wrap64 (Int.tmod a2 (IntKind.u64.wrap ((wrap64 (Int.tmod a0 4294967297))))))] rfl (by (try simp only [List.map_toArray, List.map_cons, List.map_nil]); first | done | rfl | (simp only [List.length_drop, List.length_take]; rfl)) ?_; (with_reducible refine (part_Of.calls k1 (wrap64 (Int.tmod a0 4294967297)) (wrap64 ((wrap64 (Int.tmod a1 16)) + 1)) (wrap64 (Int.tmod a2 (IntKind.u64.wrap ((wrap64 (Int.tmod a0 4294967297)))))) t151 true _ A18.out).mono ?_); rintro e w' ⟨rfl, ⟨nd, rfl⟩⟩; refine ⟨_, rfl, ?_⟩) | ((with_reducible refine gate_callee (f := 17) rfl ?_); refine goesL_ (some 106) rfl rfl Try.func17 (by kernel_rfl) rfl #[.int .i64 (wrap64 (Int.tmod a0 4294967297)), .int .i64 (wrap64 ((wrap64 (Int.tmod a1 16)) + 1)), .int .i64 t151] rfl (by (try simp only [List.map_toArray, List.map_cons, List.map_nil]); first | done | rfl | (simp only [List.length_drop, List.length_take]; rfl)) ?_; (with_reducible refine (part_Range.calls (wrap64 (Int.tmod a0 4294967297)) (wrap64 ((wrap64 (Int.tmod a1 16)) + 1)) t151 t153 t154 _ A19.out).mono ?_); rintro e w' ⟨rfl, ⟨nd, rfl⟩⟩; refine ⟨_, rfl, ?_⟩) | ((with_reducible refine gate_callee (f := 19) rfl ?_); refine goesL_ (some 113) rfl rfl Try.func19 (by kernel_rfl) rfl #[.int .i64 (wrap64 (Int.tmod a0 4294967297)), .int .i64 (wrap64 ((wrap64 (Int.tmod a1 16)) + 1)), .int .i64 (wrap64 (Int.tmod a0 4294967297))] rfl (by (try simp only [List.map_toArray, List.map_cons, List.map_nil]); first | done | rfl | (simp only [List.length_drop, List.length_take]; rfl)) ?_; (with_reducible refine (part_Of.calls k1 (wrap64 (Int.tmod a0 4294967297)) (wrap64 ((wrap64 (Int.tmod a1 16)) + 1)) (wrap64 (Int.tmod a0 4294967297)) t155 t156 _ A20.out).mono ?_); rintro e w' ⟨rfl, ⟨nd, rfl⟩⟩; refine ⟨_, rfl, ?_⟩))
                      go_ret
                      exact ⟨by first | rfl | (simp [errW_none, errW_some] <;> rfl) | (simp [*, errW_none, errW_some] <;> rfl), by repeat (first | (with_reducible first | exact HB.out | apply below_alloc | apply pw_below_drewN | apply below_drew1) | exact HB.out)⟩
                    · rw [if_neg c24] at H
                      have c24b0 : decide ((wrap64 (Int.tmod a2 (IntKind.u64.wrap ((wrap64 (Int.tmod a0 4294967297)))))) < t154) = false := decide_eq_false c24
                      clear c24
                      obtain rfl := Option.some.inj H
                      go_wp2_with (first | ((with_reducible refine gate_callee (f := 19) rfl ?_); refine goesL_ (some 99) rfl rfl Try.func19 (by kernel_rfl) rfl #[.int .i64 (wrap64 (Int.tmod a0 4294967297)), .int .i64 (wrap64 ((wrap64 (Int.tmod a1 16)) + 1)), .int .i64 (wrap64 (Int.tmod a2 (IntKind.u64.wrap ((wrap64 (Int.tmod a0 4294967297))))))] rfl (by (try simp only [List.map_toArray, List.map_cons, List.map_nil]); first | done | rfl | (simp only [List.length_drop, List.length_take]; rfl)) ?_; (with_reducible refine (part_Of.calls k1 (wrap64 (Int.tmod a0 4294967297)) (wrap64 ((wrap64 (Int.tmod a1 16)) + 1)) (wrap64 (Int.tmod a2 (IntKind.u64.wrap ((wrap64 (Int.tmod a0 4294967297)))))) t151 true _ A18.out).mono ?_); rintro e w' ⟨rfl, ⟨nd, rfl⟩⟩; refine ⟨_, rfl, ?_⟩) | ((with_reducible refine gate_callee (f := 17) rfl ?_); refine goesL_ (some 106) rfl rfl Try.func17 (by kernel_rfl) rfl #[.int .i64 (wrap64 (Int.tmod a0 4294967297)), .int .i64 (wrap64 ((wrap64 (Int.tmod a1 16)) + 1)), .int .i64 t151] rfl (by (try simp only [List.map_toArray, List.map_cons, List.map_nil]); first | done | rfl | (simp only [List.length_drop, List.length_take]; rfl)) ?_; (with_reducible refine (part_Range.calls (wrap64 (Int.tmod a0 4294967297)) (wrap64 ((wrap64 (Int.tmod a1 16)) + 1)) t151 t153 t154 _ A19.out).mono ?_); rintro e w' ⟨rfl, ⟨nd, rfl⟩⟩; refine ⟨_, rfl, ?_⟩) | ((with_reducible refine gate_callee (f := 19) rfl ?_); refine goesL_ (some 113) rfl rfl Try.func19 (by kernel_rfl) rfl #[.int .i64 (wrap64 (Int.tmod a0 4294967297)), .int .i64 (wrap64 ((wrap64 (Int.tmod a1 16)) + 1)), .int .i64 (wrap64 (Int.tmod a0 4294967297))] rfl (by (try simp only [List.map_toArray, List.map_cons, List.map_nil]); first | done | rfl | (simp only [List.length_drop, List.length_take]; rfl)) ?_; (with_reducible refine (part_Of.calls k1 (wrap64 (Int.tmod a0 4294967297)) (wrap64 ((wrap64 (Int.tmod a1 16)) + 1)) (wrap64 (Int.tmod a0 4294967297)) t155 t156 _ A20.out).mono ?_); rintro e w' ⟨rfl, ⟨nd, rfl⟩⟩; refine ⟨_, rfl, ?_⟩))
                      go_ret
                      exact ⟨by first | rfl | (simp [errW_none, errW_some] <;> rfl) | (simp [*, errW_none, errW_some] <;> rfl), by repeat (first | (with_reducible first | exact HB.out | apply below_alloc | apply pw_below_drewN | apply below_drew1) | exact HB.out)⟩
                  · rw [if_neg c23] at H
                    have c23b0 : decide (t153 ≤ (wrap64 (Int.tmod a2 (IntKind.u64.wrap ((wrap64 (Int.tmod a0 4294967297))))))) = false := decide_eq_false c23
                    clear c23
                    obtain rfl := Option.some.inj H
                    go_wp2_with (first | ((with_reducible refine gate_callee (f := 19) rfl ?_); refine goesL_ (some 99) rfl rfl Try.func19 (by kernel_rfl) rfl #[.int .i64 (wrap64 (Int.tmod a0 4294967297)), .int .i64 (wrap64 ((wrap64 (Int.tmod a1 16)) + 1)), .int .i64 (wrap64 (Int.tmod a2 (IntKind.u64.wrap ((wrap64 (Int.tmod a0 4294967297))))))] rfl (by (try simp only [List.map_toArray, List.map_cons, List.map_nil]); first | done | rfl | (simp only [List.length_drop, List.length_take]; rfl)) ?_; (with_reducible refine (part_Of.calls k1 (wrap64 (Int.tmod a0 4294967297)) (wrap64 ((wrap64 (Int.tmod a1 16)) + 1)) (wrap64 (Int.tmod a2 (IntKind.u64.wrap ((wrap64 (Int.tmod a0 4294967297)))))) t151 true _ A18.out).mono ?_); rintro e w' ⟨rfl, ⟨nd, rfl⟩⟩; refine ⟨_, rfl, ?_⟩) | ((with_reducible refine gate_callee (f := 17) rfl ?_); refine goesL_ (some 106) rfl rfl Try.func17 (by kernel_rfl) rfl #[.int .i64 (wrap64 (Int.tmod a0 4294967297)), .int .i64 (wrap64 ((wrap64 (Int.tmod a1 16)) + 1)), .int .i64 t151] rfl (by (try simp only [List.map_toArray, List.map_cons, List.map_nil]); first | done | rfl | (simp only [List.length_drop, List.length_take]; rfl)) ?_; (with_reducible refine (part_Range.calls (wrap64 (Int.tmod a0 4294967297)) (wrap64 ((wrap64 (Int.tmod a1 16)) + 1)) t151 t153 t154 _ A19.out).mono ?_); rintro e w' ⟨rfl, ⟨nd, rfl⟩⟩; refine ⟨_, rfl, ?_⟩) | ((with_reducible refine gate_callee (f := 19) rfl ?_); refine goesL_ (some 113) rfl rfl Try.func19 (by kernel_rfl) rfl #[.int .i64 (wrap64 (Int.tmod a0 4294967297)), .int .i64 (wrap64 ((wrap64 (Int.tmod a1 16)) + 1)), .int .i64 (wrap64 (Int.tmod a0 4294967297))] rfl (by (try simp only [List.map_toArray, List.map_cons, List.map_nil]); first | done | rfl | (simp only [List.length_drop, List.length_take]; rfl)) ?_; (with_reducible refine (part_Of.calls k1 (wrap64 (Int.tmod a0 4294967297)) (wrap64 ((wrap64 (Int.tmod a1 16)) + 1)) (wrap64 (Int.tmod a0 4294967297)) t155 t156 _ A20.out).mono ?_); rintro e w' ⟨rfl, ⟨nd, rfl⟩⟩; refine ⟨_, rfl, ?_⟩))
                    go_ret
                    exact ⟨by first | rfl | (simp [errW_none, errW_some] <;> rfl) | (simp [*, errW_none, errW_some] <;> rfl), by repeat (first | (with_reducible first | exact HB.out | apply below_alloc | apply pw_below_drewN | apply below_drew1) | exact HB.out)⟩
                · replace c22 := Bool.eq_false_iff.mpr c22
                  subst c22
                  have H1 : (some false) = some r := by rw [if_neg (show ¬ (false = true) by decide)] at H; exact H
                  clear H
                  have H := H1
                  clear H1
                  obtain rfl := Option.some.inj H
                  go_wp2_with (first | ((with_reducible refine gate_callee (f := 19) rfl ?_); refine goesL_ (some 99) rfl rfl Try.func19 (by kernel_rfl) rfl #[.int .i64 (wrap64 (Int.tmod a0 4294967297)), .int .i64 (wrap64 ((wrap64 (Int.tmod a1 16)) + 1)), .int .i64 (wrap64 (Int.tmod a2 (IntKind.u64.wrap ((wrap64 (Int.tmod a0 4294967297))))))] rfl (by (try simp only [List.map_toArray, List.map_cons, List.map_nil]); first | done | rfl | (simp only [List.length_drop, List.length_take]; rfl)) ?_; (with_reducible refine (part_Of.calls k1 (wrap64 (Int.tmod a0 4294967297)) (wrap64 ((wrap64 (Int.tmod a1 16)) + 1)) (wrap64 (Int.tmod a2 (IntKind.u64.wrap ((wrap64 (Int.tmod a0 4294967297)))))) t151 false _ A18.out).mono ?_); rintro e w' ⟨rfl, ⟨nd, rfl⟩⟩; refine ⟨_, rfl, ?_⟩) | ((with_reducible refine gate_callee (f := 17) rfl ?_); refine goesL_ (some 106) rfl rfl Try.func17 (by kernel_rfl) rfl #[.int .i64 (wrap64 (Int.tmod a0 4294967297)), .int .i64 (wrap64 ((wrap64 (Int.tmod a1 16)) + 1)), .int .i64 t151] rfl (by (try simp only [List.map_toArray, List.map_cons, List.map_nil]); first | done | rfl | (simp only [List.length_drop, List.length_take]; rfl)) ?_; (with_reducible refine (part_Range.calls (wrap64 (Int.tmod a0 4294967297)) (wrap64 ((wrap64 (Int.tmod a1 16)) + 1)) t151 t153 t154 _ A19.out).mono ?_); rintro e w' ⟨rfl, ⟨nd, rfl⟩⟩; refine ⟨_, rfl, ?_⟩) | ((with_reducible refine gate_callee (f := 19) rfl ?_); refine goesL_ (some 113) rfl rfl Try.func19 (by kernel_rfl) rfl #[.int .i64 (wrap64 (Int.tmod a0 4294967297)), .int .i64 (wrap64 ((wrap64 (Int.tmod a1 16)) + 1)), .int .i64 (wrap64 (Int.tmod a0 4294967297))] rfl (by (try simp only [List.map_toArray, List.map_cons, List.map_nil]); first | done | rfl | (simp only [List.length_drop, List.length_take]; rfl)) ?_; (with_reducible refine (part_Of.calls k1 (wrap64 (Int.tmod a0 4294967297)) (wrap64 ((wrap64 (Int.tmod a1 16)) + 1)) (wrap64 (Int.tmod a0 4294967297)) t155 t156 _ A20.out).mono ?_); rintro e w' ⟨rfl, ⟨nd, rfl⟩⟩; refine ⟨_, rfl, ?_⟩))
                  go_ret
                  exact ⟨by first | rfl | (simp [errW_none, errW_some] <;> rfl) | (simp [*, errW_none, errW_some] <;> rfl), by repeat (first | (with_reducible first | exact HB.out | apply below_alloc | apply pw_below_drewN | apply below_drew1) | exact HB.out)⟩
              · replace c21 := Bool.eq_false_iff.mpr c21
                subst c21
                have H1 : (some false) = some r := by rw [if_neg (show ¬ (false = true) by decide)] at H; exact H
                clear H
                have H := H1
                clear H1
                obtain rfl := Option.some.inj H
                go_wp2_with (first | ((with_reducible refine gate_callee (f := 19) rfl ?_); refine goesL_ (some 99) rfl rfl Try.func19 (by kernel_rfl) rfl #[.int .i64 (wrap64 (Int.tmod a0 4294967297)), .int .i64 (wrap64 ((wrap64 (Int.tmod a1 16)) + 1)), .int .i64 (wrap64 (Int.tmod a2 (IntKind.u64.wrap ((wrap64 (Int.tmod a0 4294967297))))))] rfl (by (try simp only [List.map_toArray, List.map_cons, List.map_nil]); first | done | rfl | (simp only [List.length_drop, List.length_take]; rfl)) ?_; (with_reducible refine (part_Of.calls k1 (wrap64 (Int.tmod a0 4294967297)) (wrap64 ((wrap64 (Int.tmod a1 16)) + 1)) (wrap64 (Int.tmod a2 (IntKind.u64.wrap ((wrap64 (Int.tmod a0 4294967297)))))) t151 t152 _ A18.out).mono ?_); rintro e w' ⟨rfl, ⟨nd, rfl⟩⟩; refine ⟨_, rfl, ?_⟩) | ((with_reducible refine gate_callee (f := 17) rfl ?_); refine goesL_ (some 106) rfl rfl Try.func17 (by kernel_rfl) rfl #[.int .i64 (wrap64 (Int.tmod a0 4294967297)), .int .i64 (wrap64 ((wrap64 (Int.tmod a1 16)) + 1)), .int .i64 t151] rfl (by (try simp only [List.map_toArray, List.map_cons, List.map_nil]); first | done | rfl | (simp only [List.length_drop, List.length_take]; rfl)) ?_; (with_reducible refine (part_Range.calls (wrap64 (Int.tmod a0 4294967297)) (wrap64 ((wrap64 (Int.tmod a1 16)) + 1)) t151 t153 t154 _ A19.out).mono ?_); rintro e w' ⟨rfl, ⟨nd, rfl⟩⟩; refine ⟨_, rfl, ?_⟩) | ((with_reducible refine gate_callee (f := 19) rfl ?_); refine goesL_ (some 113) rfl rfl Try.func19 (by kernel_rfl) rfl #[.int .i64 (wrap64 (Int.tmod a0 4294967297)), .int .i64 (wrap64 ((wrap64 (Int.tmod a1 16)) + 1)), .int .i64 (wrap64 (Int.tmod a0 4294967297))] rfl (by (try simp only [List.map_toArray, List.map_cons, List.map_nil]); first | done | rfl | (simp only [List.length_drop, List.length_take]; rfl)) ?_; (with_reducible refine (part_Of.calls k1 (wrap64 (Int.tmod a0 4294967297)) (wrap64 ((wrap64 (Int.tmod a1 16)) + 1)) (wrap64 (Int.tmod a0 4294967297)) t155 t156 _ A20.out).mono ?_); rintro e w' ⟨rfl, ⟨nd, rfl⟩⟩; refine ⟨_, rfl, ?_⟩))
                go_ret
                exact ⟨by first | rfl | (simp [errW_none, errW_some] <;> rfl) | (simp [*, errW_none, errW_some] <;> rfl), by repeat (first | (with_reducible first | exact HB.out | apply below_alloc | apply pw_below_drewN | apply below_drew1) | exact HB.out)⟩
        · rw [if_neg c13] at H
          have c13b0 : (x10_1 == (wrap64 (Int.tmod a0 4294967297))) = false := beq_eq_false_iff_ne.mpr c13
          have c13b1 : (x10_1 != (wrap64 (Int.tmod a0 4294967297))) = true := bne_iff_ne.mpr c13
          obtain rfl := Option.some.inj H
          go_wp2
          go_ret
          exact ⟨by first | rfl | (simp [errW_none, errW_some] <;> rfl) | (simp [*, errW_none, errW_some] <;> rfl), by repeat (first | (with_reducible first | exact HB.out | apply below_alloc | apply pw_below_drewN | apply below_drew1) | exact HB.out)⟩

/-- THE ONE PURE STATEMENT of creellaw19_PartWhole: yours. -/
def creellaw19_PartWhole.Pure : Prop := ∀ (a0 : Int) (a1 : Int) (a2 : Int), (Lit.int .u64 a0).wf = true → (Lit.int .u8 a1).wf = true → (Lit.int .u64 a2).wf = true → ∃ k, creellaw19_PartWhole.f k a0 a1 a2 = some true
theorem creellaw19_PartWhole.walk (P : creellaw19_PartWhole.Pure) (a0 : Int) (a1 : Int) (a2 : Int) (w : World) (w0 : (Lit.int .u64 a0).wf = true) (w1 : (Lit.int .u8 a1).wf = true) (w2 : (Lit.int .u64 a2).wf = true) :
    Calls Try.prog 5 #[.int .u64 a0, .int .u8 a1, .int .u64 a2] w fun e w' => e = .returned (.bool true) ∧ Below w.heap.size w w' := by
  obtain ⟨k, h⟩ := P a0 a1 a2 w0 w1 w2
  refine (creellaw19_PartWhole.calls k a0 a1 a2 true w h).mono ?_
  rintro e w' ⟨rfl, hd⟩
  exact ⟨rfl, hd⟩

end Go.Proofs.Ytfhbeghmlfjfjaa.Print
